/- Functions of the program: abstract forms, and what their runs give. Conditions: none. -/
import Derived.Test.YtmmlhpfodamdgaaGreatDoorPFnExactTradeProblems1
set_option maxRecDepth 100000
set_option linter.unusedVariables false
namespace Go.Ab.P
open Go.Ab
def laws_markInt64S_k0 : C :=
 .seq (.seq (.reg false [.V 6 (.mv (.t 5)),.V 7 (.mv (.t 0)),.V 8 (.len (.t 7)),.V 9 (.bin .lss (.t 6) (.t 8))] [0,1,5,9] [0]) (.cond (.t 9) .skip (.exit 0))) (.seq (.block 1 (.seq (.reg false [.V 12 (.mv (.t 0)),.V 13 (.mv (.t 5)),.V 14 (.mv (.t 1)),.V 15 (.ia 1 (.t 12) (.t 13)),⟨none,true,.sto 1 (.t 15) (.t 14),none,false,[]⟩] [0,1,5] [0]) (.reg false [.V 16 (.mv (.t 1)),.V 17 (.bin .add (.t 16) (.c (.int .i64 1))),.V 1 (.asg (.t 17))] [0,1,5] [0]))) (.reg false [.V 10 (.mv (.t 5)),.V 11 (.bin .add (.t 10) (.c (.int .i64 1))),.V 5 (.asg (.t 11))] [0,1,5] [0]))
def laws_markInt64S_k1 : C :=
 .norm [0,1,5] [0] laws_markInt64S_k0
def laws_markInt64S_k2 : C :=
 .seq (.reg false [.V 18 (.mv (.t 1)),.V 4 (.asg (.t 18))] [0,4] [0]) .ret
def laws_markInt64S_ir : Fn := { np := 2,io := [true,false],res := [.t 4],own := [false],body :=
 (.seq (.reg false [.V 4 (.asg (.c (.int .i64 0)))] [0,1] [0]) (.seq (.seq (.reg false [.V 5 (.asg (.c (.int .i64 0)))] [0,1,5] [0]) (.block 0 (.loop laws_markInt64S_k1))) laws_markInt64S_k2)) }
noncomputable def laws_markInt64S_D : List (Nat × Callee) := []
def laws_markInt64S_H : List (Nat × ET) := [(7,(.one (.int .i64))),(12,(.one (.int .i64)))]
noncomputable def laws_markInt64S_c : Callee := mkCallee laws_markInt64S_D laws_markInt64S_H laws_markInt64S_ir [.ios (.one (.int .i64)),.d (.one (.int .i64))] [.d (.one (.int .i64))] [.ios (.one (.int .i64))]
noncomputable def laws_markInt64S (a0 : List Int) (a1 : Int) : Option (Int × List Int) := laws_markInt64S_c.f (a0,a1,())
noncomputable def laws_markInt64S_p0 (l0 : Nat) (v0n : Nat) (v1 : Int) (v5 : Int) (r0 : List Int) : Option (Int × List Int) :=
 goL laws_markInt64S_D laws_markInt64S_H (vleave laws_markInt64S_ir [.ios (.one (.int .i64)),.d (.one (.int .i64))] [.d (.one (.int .i64))] [.ios (.one (.int .i64))] [l0]) [.c laws_markInt64S_k0,.l laws_markInt64S_k1,.e 0,.c laws_markInt64S_k2]
  ⟨[(0,.view 0 0 v0n),(1,.int .i64 v1),(5,.int .i64 v5)],[(0,some (.sl (.one (.int .i64)) r0))]⟩
theorem laws_markInt64S_eq (a0 : List Int) (a1 : Int) : laws_markInt64S a0 a1 =
 laws_markInt64S_p0 a0.length a0.length a1 0 a0 :=
 (mk_f _ _ _ _ _ _ _ 4000).trans (by kernel_rfl)
theorem laws_markInt64S_p0_eq (l0 : Nat) (v0n : Nat) (v1 : Int) (v5 : Int) (r0 : List Int) : laws_markInt64S_p0 l0 v0n v1 v5 r0 =
 if decide (v5 < (v0n : Int)) then
  if decide (0 ≤ v5) && decide (v5 < (v0n : Int)) then
   (r0[v5.toNat]?).bind fun x1 =>
    laws_markInt64S_p0 l0 v0n (IntKind.i64.wrap (v1 + 1)) (IntKind.i64.wrap (v5 + 1)) (r0.set v5.toNat v1)
  else
   none
 else
  if decide (r0.length = l0) then
   some (v1,r0)
  else
   none :=
 (goL_dn _ _ _ 4000 _ _).trans (by kernel_rfl)
def laws_markText_k0 : C :=
 .seq (.seq (.reg false [.V 6 (.mv (.t 0)),.V 7 (.bin .gtr (.t 6) (.c (.int .i64 0)))] [0,3,7] []) (.cond (.t 7) .skip (.exit 0))) (.block 1 (.seq (.reg false [.V 8 (.mv (.t 0)),.V 9 (.bin .rem (.t 8) (.c (.int .i64 10))),.V 10 (.bin .add (.c (.int .i64 48)) (.t 9)),.V 11 (.conv (.int .u8) (.t 10)),.V 12 (.bsl 1 (.int .u8 0) 1 [(0,.t 11)]),.V 13 (.conv .bytesStr (.t 12)),.V 14 (.mv (.t 3)),.V 15 (.bin .add (.t 13) (.t 14)),.V 3 (.asg (.t 15))] [0,3] []) (.reg false [.V 16 (.mv (.t 0)),.V 17 (.bin .quo (.t 16) (.c (.int .i64 10))),.V 0 (.asg (.t 17))] [0,3] [])))
def laws_markText_k1 : C :=
 .norm [0,3] [] laws_markText_k0
def laws_markText_k2 : C :=
 .seq (.reg false [.V 18 (.mv (.t 3)),.V 19 (.bin .add (.c (.str [109])) (.t 18)),.V 2 (.asg (.t 19))] [2] []) .ret
def laws_markText_ir : Fn := { np := 1,io := [],res := [.t 2],own := [false],body :=
 (.seq (.reg false [.V 2 (.asg (.c (.str [])))] [0] []) (.seq (.seq (.reg false [.V 4 (.mv (.t 0)),.V 5 (.bin .leq (.t 4) (.c (.int .i64 0)))] [0,5] []) (.cond (.t 5) (.seq (.reg false [.V 2 (.asg (.c (.str [109,48])))] [2] []) .ret) .skip)) (.seq (.reg false [.V 3 (.asg (.c (.str [])))] [0,3] []) (.seq (.block 0 (.loop laws_markText_k1)) laws_markText_k2)))) }
noncomputable def laws_markText_D : List (Nat × Callee) := []
def laws_markText_H : List (Nat × ET) := [(12,(.one (.int .u8)))]
noncomputable def laws_markText_c : Callee := mkCallee laws_markText_D laws_markText_H laws_markText_ir [.d (.one (.int .i64))] [.d (.one .str)] []
noncomputable def laws_markText (a0 : Int) : Option (List UInt8) := laws_markText_c.f (a0,())
noncomputable def laws_markText_p0  (v0 : Int) (v3 : List UInt8) : Option (List UInt8) :=
 goL laws_markText_D laws_markText_H (vleave laws_markText_ir [.d (.one (.int .i64))] [.d (.one .str)] [] []) [.c laws_markText_k0,.l laws_markText_k1,.e 0,.c laws_markText_k2]
  ⟨[(0,.int .i64 v0),(3,.str v3)],[]⟩
theorem laws_markText_eq (a0 : Int) : laws_markText a0 =
 if decide (a0 ≤ 0) then
  some [109,48]
 else
  laws_markText_p0 a0 [] :=
 (mk_f _ _ _ _ _ _ _ 4000).trans (by kernel_rfl)
theorem laws_markText_p0_eq  (v0 : Int) (v3 : List UInt8) : laws_markText_p0 v0 v3 =
 if decide (v0 > 0) then
  if decide (([IntKind.u8.wrap (IntKind.i64.wrap (48 + (v0.tmod 10)))].map vu8).length + v3.length ≤ strMax) then
   laws_markText_p0 (IntKind.i64.wrap (v0.tdiv 10)) (([IntKind.u8.wrap (IntKind.i64.wrap (48 + (v0.tmod 10)))].map vu8) ++ v3)
  else
   none
 else
  if decide ([109].length + v3.length ≤ strMax) then
   some ([109] ++ v3)
  else
   none :=
 (goL_dn _ _ _ 4000 _ _).trans (by kernel_rfl)
def laws_markRentalS_k0 : C :=
 .seq (.seq (.reg false [.V 6 (.mv (.t 5)),.V 7 (.mv (.t 0)),.V 8 (.len (.t 7)),.V 9 (.bin .lss (.t 6) (.t 8))] [0,1,5,9] [0]) (.cond (.t 9) .skip (.exit 0))) (.seq (.block 1 (.seq (.reg false [.V 12 (.mv (.t 0)),.V 13 (.mv (.t 5)),.V 14 (.mv (.t 1)),.V 15 (.call (.c (.fn 40 [])) [.t 14]),.V 16 (.ia 5 (.t 12) (.t 13)),.V 17 (.fa 0 (.t 16)),⟨none,true,.sto 1 (.t 17) (.t 15),none,false,[]⟩] [0,1,5] [0]) (.seq (.reg false [.V 18 (.mv (.t 1)),.V 19 (.bin .add (.t 18) (.c (.int .i64 1))),.V 1 (.asg (.t 19))] [0,1,5] [0]) (.seq (.reg false [.V 20 (.mv (.t 0)),.V 21 (.mv (.t 5)),.V 22 (.mv (.t 1)),.V 23 (.call (.c (.fn 40 [])) [.t 22]),.V 24 (.ia 5 (.t 20) (.t 21)),.V 25 (.fa 1 (.t 24)),⟨none,true,.sto 1 (.t 25) (.t 23),none,false,[]⟩] [0,1,5] [0]) (.seq (.reg false [.V 26 (.mv (.t 1)),.V 27 (.bin .add (.t 26) (.c (.int .i64 1))),.V 1 (.asg (.t 27))] [0,1,5] [0]) (.seq (.reg false [.V 28 (.mv (.t 0)),.V 29 (.mv (.t 5)),.V 30 (.mv (.t 1)),.V 31 (.ia 5 (.t 28) (.t 29)),.V 32 (.fa 2 (.t 31)),⟨none,true,.sto 1 (.t 32) (.t 30),none,false,[]⟩] [0,1,5] [0]) (.seq (.reg false [.V 33 (.mv (.t 1)),.V 34 (.bin .add (.t 33) (.c (.int .i64 1))),.V 1 (.asg (.t 34))] [0,1,5] [0]) (.seq (.reg false [.V 35 (.mv (.t 0)),.V 36 (.mv (.t 5)),.V 37 (.mv (.t 1)),.V 38 (.ia 5 (.t 35) (.t 36)),.V 39 (.fa 3 (.t 38)),⟨none,true,.sto 1 (.t 39) (.t 37),none,false,[]⟩] [0,1,5] [0]) (.seq (.reg false [.V 40 (.mv (.t 1)),.V 41 (.bin .add (.t 40) (.c (.int .i64 1))),.V 1 (.asg (.t 41))] [0,1,5] [0]) (.seq (.reg false [.V 42 (.mv (.t 0)),.V 43 (.mv (.t 5)),.V 44 (.mv (.t 1)),.V 45 (.ia 5 (.t 42) (.t 43)),.V 46 (.fa 4 (.t 45)),⟨none,true,.sto 1 (.t 46) (.t 44),none,false,[]⟩] [0,1,5] [0]) (.reg false [.V 47 (.mv (.t 1)),.V 48 (.bin .add (.t 47) (.c (.int .i64 1))),.V 1 (.asg (.t 48))] [0,1,5] [0]))))))))))) (.reg false [.V 10 (.mv (.t 5)),.V 11 (.bin .add (.t 10) (.c (.int .i64 1))),.V 5 (.asg (.t 11))] [0,1,5] [0]))
def laws_markRentalS_k1 : C :=
 .norm [0,1,5] [0] laws_markRentalS_k0
def laws_markRentalS_k2 : C :=
 .seq (.reg false [.V 49 (.mv (.t 1)),.V 4 (.asg (.t 49))] [0,4] [0]) .ret
def laws_markRentalS_ir : Fn := { np := 2,io := [true,false],res := [.t 4],own := [false],body :=
 (.seq (.reg false [.V 4 (.asg (.c (.int .i64 0)))] [0,1] [0]) (.seq (.seq (.reg false [.V 5 (.asg (.c (.int .i64 0)))] [0,1,5] [0]) (.block 0 (.loop laws_markRentalS_k1))) laws_markRentalS_k2)) }
noncomputable def laws_markRentalS_D : List (Nat × Callee) := [(40,laws_markText_c)]
def laws_markRentalS_H : List (Nat × ET) := [(7,T_Paper),(12,T_Paper),(20,T_Paper),(28,T_Paper),(35,T_Paper),(42,T_Paper)]
noncomputable def laws_markRentalS_c : Callee := mkCallee laws_markRentalS_D laws_markRentalS_H laws_markRentalS_ir [.ios T_Paper,.d (.one (.int .i64))] [.d (.one (.int .i64))] [.ios T_Paper]
noncomputable def laws_markRentalS (a0 : List T_Paper.ty) (a1 : Int) : Option (Int × List T_Paper.ty) := laws_markRentalS_c.f (a0,a1,())
noncomputable def laws_markRentalS_p0 (l0 : Nat) (v0n : Nat) (v1 : Int) (v5 : Int) (r0 : List T_Paper.ty) : Option (Int × List T_Paper.ty) :=
 goL laws_markRentalS_D laws_markRentalS_H (vleave laws_markRentalS_ir [.ios T_Paper,.d (.one (.int .i64))] [.d (.one (.int .i64))] [.ios T_Paper] [l0]) [.c laws_markRentalS_k0,.l laws_markRentalS_k1,.e 0,.c laws_markRentalS_k2]
  ⟨[(0,.view 0 0 v0n),(1,.int .i64 v1),(5,.int .i64 v5)],[(0,some (.sl T_Paper r0))]⟩
theorem laws_markRentalS_eq (a0 : List T_Paper.ty) (a1 : Int) : laws_markRentalS a0 a1 =
 laws_markRentalS_p0 a0.length a0.length a1 0 a0 :=
 (mk_f _ _ _ _ _ _ _ 4000).trans (by kernel_rfl)
theorem laws_markRentalS_p0_eq (l0 : Nat) (v0n : Nat) (v1 : Int) (v5 : Int) (r0 : List T_Paper.ty) : laws_markRentalS_p0 l0 v0n v1 v5 r0 =
 if decide (v5 < (v0n : Int)) then
  (laws_markText v1).bind fun x1 =>
   if decide (0 ≤ v5) && decide (v5 < (v0n : Int)) then
    (r0[v5.toNat]?).bind fun x2 =>
     (laws_markText (IntKind.i64.wrap (v1 + 1))).bind fun x3 =>
      if decide (0 ≤ v5) && decide (v5 < (v0n : Int)) then
       ((r0.set v5.toNat (x1,x2.2.1,x2.2.2.1,x2.2.2.2.1,x2.2.2.2.2.1,()))[v5.toNat]?).bind fun x4 =>
        if decide (0 ≤ v5) && decide (v5 < (v0n : Int)) then
         (((r0.set v5.toNat (x1,x2.2.1,x2.2.2.1,x2.2.2.2.1,x2.2.2.2.2.1,())).set v5.toNat (x4.1,x3,x4.2.2.1,x4.2.2.2.1,x4.2.2.2.2.1,()))[v5.toNat]?).bind fun x5 =>
          if decide (0 ≤ v5) && decide (v5 < (v0n : Int)) then
           ((((r0.set v5.toNat (x1,x2.2.1,x2.2.2.1,x2.2.2.2.1,x2.2.2.2.2.1,())).set v5.toNat (x4.1,x3,x4.2.2.1,x4.2.2.2.1,x4.2.2.2.2.1,())).set v5.toNat (x5.1,x5.2.1,IntKind.i64.wrap ((IntKind.i64.wrap (v1 + 1)) + 1),x5.2.2.2.1,x5.2.2.2.2.1,()))[v5.toNat]?).bind fun x6 =>
            if decide (0 ≤ v5) && decide (v5 < (v0n : Int)) then
             (((((r0.set v5.toNat (x1,x2.2.1,x2.2.2.1,x2.2.2.2.1,x2.2.2.2.2.1,())).set v5.toNat (x4.1,x3,x4.2.2.1,x4.2.2.2.1,x4.2.2.2.2.1,())).set v5.toNat (x5.1,x5.2.1,IntKind.i64.wrap ((IntKind.i64.wrap (v1 + 1)) + 1),x5.2.2.2.1,x5.2.2.2.2.1,())).set v5.toNat (x6.1,x6.2.1,x6.2.2.1,IntKind.i64.wrap ((IntKind.i64.wrap ((IntKind.i64.wrap (v1 + 1)) + 1)) + 1),x6.2.2.2.2.1,()))[v5.toNat]?).bind fun x7 =>
              laws_markRentalS_p0 l0 v0n (IntKind.i64.wrap ((IntKind.i64.wrap ((IntKind.i64.wrap ((IntKind.i64.wrap ((IntKind.i64.wrap (v1 + 1)) + 1)) + 1)) + 1)) + 1)) (IntKind.i64.wrap (v5 + 1)) (((((r0.set v5.toNat (x1,x2.2.1,x2.2.2.1,x2.2.2.2.1,x2.2.2.2.2.1,())).set v5.toNat (x4.1,x3,x4.2.2.1,x4.2.2.2.1,x4.2.2.2.2.1,())).set v5.toNat (x5.1,x5.2.1,IntKind.i64.wrap ((IntKind.i64.wrap (v1 + 1)) + 1),x5.2.2.2.1,x5.2.2.2.2.1,())).set v5.toNat (x6.1,x6.2.1,x6.2.2.1,IntKind.i64.wrap ((IntKind.i64.wrap ((IntKind.i64.wrap (v1 + 1)) + 1)) + 1),x6.2.2.2.2.1,())).set v5.toNat (x7.1,x7.2.1,x7.2.2.1,x7.2.2.2.1,IntKind.i64.wrap ((IntKind.i64.wrap ((IntKind.i64.wrap ((IntKind.i64.wrap (v1 + 1)) + 1)) + 1)) + 1),()))
            else
             none
          else
           none
        else
         none
      else
       none
   else
    none
 else
  if decide (r0.length = l0) then
   some (v1,r0)
  else
   none :=
 (goL_dn _ _ _ 4000 _ _).trans (by kernel_rfl)
def laws_markEntryS_k0 : C :=
 .seq (.seq (.reg false [.V 6 (.mv (.t 5)),.V 7 (.mv (.t 0)),.V 8 (.len (.t 7)),.V 9 (.bin .lss (.t 6) (.t 8))] [0,1,5,9] [0]) (.cond (.t 9) .skip (.exit 0))) (.seq (.block 1 (.seq (.reg false [.V 12 (.mv (.t 0)),.V 13 (.mv (.t 5)),.V 14 (.mv (.t 1)),.V 15 (.ia 4 (.t 12) (.t 13)),.V 16 (.fa 0 (.t 15)),⟨none,true,.sto 1 (.t 16) (.t 14),none,false,[]⟩] [0,1,5] [0]) (.seq (.reg false [.V 17 (.mv (.t 1)),.V 18 (.bin .add (.t 17) (.c (.int .i64 1))),.V 1 (.asg (.t 18))] [0,1,5] [0]) (.seq (.reg false [.V 19 (.mv (.t 0)),.V 20 (.mv (.t 5)),.V 21 (.mv (.t 1)),.V 22 (.call (.c (.fn 40 [])) [.t 21]),.V 23 (.ia 4 (.t 19) (.t 20)),.V 24 (.fa 1 (.t 23)),⟨none,true,.sto 1 (.t 24) (.t 22),none,false,[]⟩] [0,1,5] [0]) (.seq (.reg false [.V 25 (.mv (.t 1)),.V 26 (.bin .add (.t 25) (.c (.int .i64 1))),.V 1 (.asg (.t 26))] [0,1,5] [0]) (.seq (.reg false [.V 27 (.mv (.t 0)),.V 28 (.mv (.t 5)),.V 29 (.mv (.t 1)),.V 30 (.call (.c (.fn 40 [])) [.t 29]),.V 31 (.ia 4 (.t 27) (.t 28)),.V 32 (.fa 2 (.t 31)),⟨none,true,.sto 1 (.t 32) (.t 30),none,false,[]⟩] [0,1,5] [0]) (.seq (.reg false [.V 33 (.mv (.t 1)),.V 34 (.bin .add (.t 33) (.c (.int .i64 1))),.V 1 (.asg (.t 34))] [0,1,5] [0]) (.seq (.reg false [.V 35 (.mv (.t 0)),.V 36 (.mv (.t 5)),.V 37 (.mv (.t 1)),.V 38 (.ia 4 (.t 35) (.t 36)),.V 39 (.fa 3 (.t 38)),⟨none,true,.sto 1 (.t 39) (.t 37),none,false,[]⟩] [0,1,5] [0]) (.reg false [.V 40 (.mv (.t 1)),.V 41 (.bin .add (.t 40) (.c (.int .i64 1))),.V 1 (.asg (.t 41))] [0,1,5] [0]))))))))) (.reg false [.V 10 (.mv (.t 5)),.V 11 (.bin .add (.t 10) (.c (.int .i64 1))),.V 5 (.asg (.t 11))] [0,1,5] [0]))
def laws_markEntryS_k1 : C :=
 .norm [0,1,5] [0] laws_markEntryS_k0
def laws_markEntryS_k2 : C :=
 .seq (.reg false [.V 42 (.mv (.t 1)),.V 4 (.asg (.t 42))] [0,4] [0]) .ret
def laws_markEntryS_ir : Fn := { np := 2,io := [true,false],res := [.t 4],own := [false],body :=
 (.seq (.reg false [.V 4 (.asg (.c (.int .i64 0)))] [0,1] [0]) (.seq (.seq (.reg false [.V 5 (.asg (.c (.int .i64 0)))] [0,1,5] [0]) (.block 0 (.loop laws_markEntryS_k1))) laws_markEntryS_k2)) }
noncomputable def laws_markEntryS_D : List (Nat × Callee) := [(40,laws_markText_c)]
def laws_markEntryS_H : List (Nat × ET) := [(7,T_Entry),(12,T_Entry),(19,T_Entry),(27,T_Entry),(35,T_Entry)]
noncomputable def laws_markEntryS_c : Callee := mkCallee laws_markEntryS_D laws_markEntryS_H laws_markEntryS_ir [.ios T_Entry,.d (.one (.int .i64))] [.d (.one (.int .i64))] [.ios T_Entry]
noncomputable def laws_markEntryS (a0 : List T_Entry.ty) (a1 : Int) : Option (Int × List T_Entry.ty) := laws_markEntryS_c.f (a0,a1,())
noncomputable def laws_markEntryS_p0 (l0 : Nat) (v0n : Nat) (v1 : Int) (v5 : Int) (r0 : List T_Entry.ty) : Option (Int × List T_Entry.ty) :=
 goL laws_markEntryS_D laws_markEntryS_H (vleave laws_markEntryS_ir [.ios T_Entry,.d (.one (.int .i64))] [.d (.one (.int .i64))] [.ios T_Entry] [l0]) [.c laws_markEntryS_k0,.l laws_markEntryS_k1,.e 0,.c laws_markEntryS_k2]
  ⟨[(0,.view 0 0 v0n),(1,.int .i64 v1),(5,.int .i64 v5)],[(0,some (.sl T_Entry r0))]⟩
theorem laws_markEntryS_eq (a0 : List T_Entry.ty) (a1 : Int) : laws_markEntryS a0 a1 =
 laws_markEntryS_p0 a0.length a0.length a1 0 a0 :=
 (mk_f _ _ _ _ _ _ _ 4000).trans (by kernel_rfl)
theorem laws_markEntryS_p0_eq (l0 : Nat) (v0n : Nat) (v1 : Int) (v5 : Int) (r0 : List T_Entry.ty) : laws_markEntryS_p0 l0 v0n v1 v5 r0 =
 if decide (v5 < (v0n : Int)) then
  if decide (0 ≤ v5) && decide (v5 < (v0n : Int)) then
   (r0[v5.toNat]?).bind fun x1 =>
    (laws_markText (IntKind.i64.wrap (v1 + 1))).bind fun x2 =>
     if decide (0 ≤ v5) && decide (v5 < (v0n : Int)) then
      ((r0.set v5.toNat (v1,x1.2.1,x1.2.2.1,x1.2.2.2.1,()))[v5.toNat]?).bind fun x3 =>
       (laws_markText (IntKind.i64.wrap ((IntKind.i64.wrap (v1 + 1)) + 1))).bind fun x4 =>
        if decide (0 ≤ v5) && decide (v5 < (v0n : Int)) then
         (((r0.set v5.toNat (v1,x1.2.1,x1.2.2.1,x1.2.2.2.1,())).set v5.toNat (x3.1,x2,x3.2.2.1,x3.2.2.2.1,()))[v5.toNat]?).bind fun x5 =>
          if decide (0 ≤ v5) && decide (v5 < (v0n : Int)) then
           ((((r0.set v5.toNat (v1,x1.2.1,x1.2.2.1,x1.2.2.2.1,())).set v5.toNat (x3.1,x2,x3.2.2.1,x3.2.2.2.1,())).set v5.toNat (x5.1,x5.2.1,x4,x5.2.2.2.1,()))[v5.toNat]?).bind fun x6 =>
            laws_markEntryS_p0 l0 v0n (IntKind.i64.wrap ((IntKind.i64.wrap ((IntKind.i64.wrap ((IntKind.i64.wrap (v1 + 1)) + 1)) + 1)) + 1)) (IntKind.i64.wrap (v5 + 1)) ((((r0.set v5.toNat (v1,x1.2.1,x1.2.2.1,x1.2.2.2.1,())).set v5.toNat (x3.1,x2,x3.2.2.1,x3.2.2.2.1,())).set v5.toNat (x5.1,x5.2.1,x4,x5.2.2.2.1,())).set v5.toNat (x6.1,x6.2.1,x6.2.2.1,IntKind.i64.wrap ((IntKind.i64.wrap ((IntKind.i64.wrap (v1 + 1)) + 1)) + 1),()))
          else
           none
        else
         none
     else
      none
  else
   none
 else
  if decide (r0.length = l0) then
   some (v1,r0)
  else
   none :=
 (goL_dn _ _ _ 4000 _ _).trans (by kernel_rfl)
def laws_markProblemS_k0 : C :=
 .seq (.seq (.reg false [.V 6 (.mv (.t 5)),.V 7 (.mv (.t 0)),.V 8 (.len (.t 7)),.V 9 (.bin .lss (.t 6) (.t 8))] [0,1,5,9] [0]) (.cond (.t 9) .skip (.exit 0))) (.seq (.block 1 (.seq (.reg false [.V 12 (.mv (.t 0)),.V 13 (.mv (.t 5)),.V 14 (.mv (.t 1)),.V 15 (.ia 3 (.t 12) (.t 13)),.V 16 (.fa 0 (.t 15)),⟨none,true,.sto 1 (.t 16) (.t 14),none,false,[]⟩] [0,1,5] [0]) (.seq (.reg false [.V 17 (.mv (.t 1)),.V 18 (.bin .add (.t 17) (.c (.int .i64 1))),.V 1 (.asg (.t 18))] [0,1,5] [0]) (.seq (.reg false [.V 19 (.mv (.t 0)),.V 20 (.mv (.t 5)),.V 21 (.mv (.t 1)),.V 22 (.call (.c (.fn 40 [])) [.t 21]),.V 23 (.ia 3 (.t 19) (.t 20)),.V 24 (.fa 1 (.t 23)),⟨none,true,.sto 1 (.t 24) (.t 22),none,false,[]⟩] [0,1,5] [0]) (.seq (.reg false [.V 25 (.mv (.t 1)),.V 26 (.bin .add (.t 25) (.c (.int .i64 1))),.V 1 (.asg (.t 26))] [0,1,5] [0]) (.seq (.reg false [.V 27 (.mv (.t 0)),.V 28 (.mv (.t 5)),.V 29 (.mv (.t 1)),.V 30 (.call (.c (.fn 40 [])) [.t 29]),.V 31 (.ia 3 (.t 27) (.t 28)),.V 32 (.fa 2 (.t 31)),⟨none,true,.sto 1 (.t 32) (.t 30),none,false,[]⟩] [0,1,5] [0]) (.reg false [.V 33 (.mv (.t 1)),.V 34 (.bin .add (.t 33) (.c (.int .i64 1))),.V 1 (.asg (.t 34))] [0,1,5] [0]))))))) (.reg false [.V 10 (.mv (.t 5)),.V 11 (.bin .add (.t 10) (.c (.int .i64 1))),.V 5 (.asg (.t 11))] [0,1,5] [0]))
def laws_markProblemS_k1 : C :=
 .norm [0,1,5] [0] laws_markProblemS_k0
def laws_markProblemS_k2 : C :=
 .seq (.reg false [.V 35 (.mv (.t 1)),.V 4 (.asg (.t 35))] [0,4] [0]) .ret
def laws_markProblemS_ir : Fn := { np := 2,io := [true,false],res := [.t 4],own := [false],body :=
 (.seq (.reg false [.V 4 (.asg (.c (.int .i64 0)))] [0,1] [0]) (.seq (.seq (.reg false [.V 5 (.asg (.c (.int .i64 0)))] [0,1,5] [0]) (.block 0 (.loop laws_markProblemS_k1))) laws_markProblemS_k2)) }
noncomputable def laws_markProblemS_D : List (Nat × Callee) := [(40,laws_markText_c)]
def laws_markProblemS_H : List (Nat × ET) := [(7,T_Problem),(12,T_Problem),(19,T_Problem),(27,T_Problem)]
noncomputable def laws_markProblemS_c : Callee := mkCallee laws_markProblemS_D laws_markProblemS_H laws_markProblemS_ir [.ios T_Problem,.d (.one (.int .i64))] [.d (.one (.int .i64))] [.ios T_Problem]
noncomputable def laws_markProblemS (a0 : List T_Problem.ty) (a1 : Int) : Option (Int × List T_Problem.ty) := laws_markProblemS_c.f (a0,a1,())
noncomputable def laws_markProblemS_p0 (l0 : Nat) (v0n : Nat) (v1 : Int) (v5 : Int) (r0 : List T_Problem.ty) : Option (Int × List T_Problem.ty) :=
 goL laws_markProblemS_D laws_markProblemS_H (vleave laws_markProblemS_ir [.ios T_Problem,.d (.one (.int .i64))] [.d (.one (.int .i64))] [.ios T_Problem] [l0]) [.c laws_markProblemS_k0,.l laws_markProblemS_k1,.e 0,.c laws_markProblemS_k2]
  ⟨[(0,.view 0 0 v0n),(1,.int .i64 v1),(5,.int .i64 v5)],[(0,some (.sl T_Problem r0))]⟩
theorem laws_markProblemS_eq (a0 : List T_Problem.ty) (a1 : Int) : laws_markProblemS a0 a1 =
 laws_markProblemS_p0 a0.length a0.length a1 0 a0 :=
 (mk_f _ _ _ _ _ _ _ 4000).trans (by kernel_rfl)
theorem laws_markProblemS_p0_eq (l0 : Nat) (v0n : Nat) (v1 : Int) (v5 : Int) (r0 : List T_Problem.ty) : laws_markProblemS_p0 l0 v0n v1 v5 r0 =
 if decide (v5 < (v0n : Int)) then
  if decide (0 ≤ v5) && decide (v5 < (v0n : Int)) then
   (r0[v5.toNat]?).bind fun x1 =>
    (laws_markText (IntKind.i64.wrap (v1 + 1))).bind fun x2 =>
     if decide (0 ≤ v5) && decide (v5 < (v0n : Int)) then
      ((r0.set v5.toNat (v1,x1.2.1,x1.2.2.1,()))[v5.toNat]?).bind fun x3 =>
       (laws_markText (IntKind.i64.wrap ((IntKind.i64.wrap (v1 + 1)) + 1))).bind fun x4 =>
        if decide (0 ≤ v5) && decide (v5 < (v0n : Int)) then
         (((r0.set v5.toNat (v1,x1.2.1,x1.2.2.1,())).set v5.toNat (x3.1,x2,x3.2.2.1,()))[v5.toNat]?).bind fun x5 =>
          laws_markProblemS_p0 l0 v0n (IntKind.i64.wrap ((IntKind.i64.wrap ((IntKind.i64.wrap (v1 + 1)) + 1)) + 1)) (IntKind.i64.wrap (v5 + 1)) (((r0.set v5.toNat (v1,x1.2.1,x1.2.2.1,())).set v5.toNat (x3.1,x2,x3.2.2.1,())).set v5.toNat (x5.1,x5.2.1,x4,()))
        else
         none
     else
      none
  else
   none
 else
  if decide (r0.length = l0) then
   some (v1,r0)
  else
   none :=
 (goL_dn _ _ _ 4000 _ _).trans (by kernel_rfl)
def laws_heldProblemS_k0 : C :=
 .seq (.seq (.reg false [.V 6 (.mv (.t 5)),.V 7 (.mv (.t 0)),.V 8 (.len (.t 7)),.V 9 (.bin .lss (.t 6) (.t 8))] [0,1,5,9] []) (.cond (.t 9) .skip (.exit 0))) (.seq (.block 1 (.seq (.seq (.reg false [.V 12 (.mv (.t 0)),.V 13 (.mv (.t 5)),.V 14 (.ia 3 (.t 12) (.t 13)),.V 15 (.fa 0 (.t 14)),.V 16 (.ld none (.t 15)),.V 17 (.mv (.t 1)),.V 18 (.bin .neq (.t 16) (.t 17))] [0,1,5,18] []) (.cond (.t 18) (.seq (.reg false [.V 4 (.asg (.c (.int .i64 (-1))))] [4] []) .ret) .skip)) (.seq (.reg false [.V 19 (.mv (.t 1)),.V 20 (.bin .add (.t 19) (.c (.int .i64 1))),.V 1 (.asg (.t 20))] [0,1,5] []) (.seq (.seq (.reg true [.V 21 (.mv (.t 0)),.V 22 (.mv (.t 5)),.V 23 (.ia 3 (.t 21) (.t 22)),.V 24 (.fa 1 (.t 23)),.V 25 (.ld none (.t 24)),.V 26 (.mv (.t 1)),.V 27 (.call (.c (.fn 40 [])) [.t 26]),.V 28 (.bin .neq (.t 25) (.t 27))] [0,1,5,28] []) (.cond (.t 28) (.seq (.reg false [.V 4 (.asg (.c (.int .i64 (-1))))] [4] []) .ret) .skip)) (.seq (.reg false [.V 29 (.mv (.t 1)),.V 30 (.bin .add (.t 29) (.c (.int .i64 1))),.V 1 (.asg (.t 30))] [0,1,5] []) (.seq (.seq (.reg true [.V 31 (.mv (.t 0)),.V 32 (.mv (.t 5)),.V 33 (.ia 3 (.t 31) (.t 32)),.V 34 (.fa 2 (.t 33)),.V 35 (.ld none (.t 34)),.V 36 (.mv (.t 1)),.V 37 (.call (.c (.fn 40 [])) [.t 36]),.V 38 (.bin .neq (.t 35) (.t 37))] [0,1,5,38] []) (.cond (.t 38) (.seq (.reg false [.V 4 (.asg (.c (.int .i64 (-1))))] [4] []) .ret) .skip)) (.reg false [.V 39 (.mv (.t 1)),.V 40 (.bin .add (.t 39) (.c (.int .i64 1))),.V 1 (.asg (.t 40))] [0,1,5] []))))))) (.reg false [.V 10 (.mv (.t 5)),.V 11 (.bin .add (.t 10) (.c (.int .i64 1))),.V 5 (.asg (.t 11))] [0,1,5] []))
def laws_heldProblemS_k1 : C :=
 .norm [0,1,5] [] laws_heldProblemS_k0
def laws_heldProblemS_k2 : C :=
 .seq (.reg false [.V 41 (.mv (.t 1)),.V 4 (.asg (.t 41))] [4] []) .ret
def laws_heldProblemS_ir : Fn := { np := 2,io := [],res := [.t 4],own := [false],body :=
 (.seq (.reg false [.V 4 (.asg (.c (.int .i64 0)))] [0,1] []) (.seq (.seq (.reg false [.V 5 (.asg (.c (.int .i64 0)))] [0,1,5] []) (.block 0 (.loop laws_heldProblemS_k1))) laws_heldProblemS_k2)) }
noncomputable def laws_heldProblemS_D : List (Nat × Callee) := [(40,laws_markText_c)]
def laws_heldProblemS_H : List (Nat × ET) := [(7,T_Problem),(12,T_Problem),(21,T_Problem),(31,T_Problem)]
noncomputable def laws_heldProblemS_c : Callee := mkCallee laws_heldProblemS_D laws_heldProblemS_H laws_heldProblemS_ir [.d (.one (.sl T_Problem)),.d (.one (.int .i64))] [.d (.one (.int .i64))] []
noncomputable def laws_heldProblemS (a0 : List T_Problem.ty) (a1 : Int) : Option (Int) := laws_heldProblemS_c.f (a0,a1,())
noncomputable def laws_heldProblemS_p0  (v0 : List T_Problem.ty) (v1 : Int) (v5 : Int) : Option (Int) :=
 goL laws_heldProblemS_D laws_heldProblemS_H (vleave laws_heldProblemS_ir [.d (.one (.sl T_Problem)),.d (.one (.int .i64))] [.d (.one (.int .i64))] [] []) [.c laws_heldProblemS_k0,.l laws_heldProblemS_k1,.e 0,.c laws_heldProblemS_k2]
  ⟨[(0,.sl T_Problem v0),(1,.int .i64 v1),(5,.int .i64 v5)],[]⟩
theorem laws_heldProblemS_eq (a0 : List T_Problem.ty) (a1 : Int) : laws_heldProblemS a0 a1 =
 laws_heldProblemS_p0 a0 a1 0 :=
 (mk_f _ _ _ _ _ _ _ 4000).trans (by kernel_rfl)
theorem laws_heldProblemS_p0_eq  (v0 : List T_Problem.ty) (v1 : Int) (v5 : Int) : laws_heldProblemS_p0 v0 v1 v5 =
 if decide (v5 < (v0.length : Int)) then
  if decide (0 ≤ v5) then
   (v0[v5.toNat]?).bind fun x1 =>
    if (x1.1 != v1) then
     some (-1)
    else
     if decide (0 ≤ v5) then
      (v0[v5.toNat]?).bind fun x2 =>
       (laws_markText (IntKind.i64.wrap (v1 + 1))).bind fun x3 =>
        if (!(x2.2.1 == x3)) then
         some (-1)
        else
         if decide (0 ≤ v5) then
          (v0[v5.toNat]?).bind fun x4 =>
           (laws_markText (IntKind.i64.wrap ((IntKind.i64.wrap (v1 + 1)) + 1))).bind fun x5 =>
            if (!(x4.2.2.1 == x5)) then
             some (-1)
            else
             laws_heldProblemS_p0 v0 (IntKind.i64.wrap ((IntKind.i64.wrap ((IntKind.i64.wrap (v1 + 1)) + 1)) + 1)) (IntKind.i64.wrap (v5 + 1))
         else
          none
     else
      none
  else
   none
 else
  some v1 :=
 (goL_dn _ _ _ 4000 _ _).trans (by kernel_rfl)
noncomputable def laws_FnExactTradeProblems_F : ShopF := { sz := laws_szShop,sp := spec_TradeProblems,im := impl_TradeProblems,ep := laws_eqProblemS,es := laws_eqShop,t0 := laws_toArcS,t1 := laws_toCordS,tI := laws_toInt64S,t6 := laws_toRentalS,t7 := laws_toEntryS,k0 := laws_markArcS,k1 := laws_markCordS,kI := laws_markInt64S,k6 := laws_markRentalS,k7 := laws_markEntryS,kT := laws_markText,mp := laws_markProblemS,hp := laws_heldProblemS }
noncomputable def laws_FnExactTradeProblems_c : Callee := lawC shopE laws_FnExactTradeProblems_F.Cond
end Go.Ab.P
