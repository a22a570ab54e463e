/- Functions of the program: abstract forms, and what their runs give. Conditions: none. -/
import Derived.Test.YtihgbmhhcalejaaGreatDoorPFnExactDeskReport1
set_option maxRecDepth 100000
set_option linter.unusedVariables false
namespace Go.Ab.P
open Go.Ab
def laws_toRibS_k0 : C :=
 .seq (.seq (.reg false [.V 8 (.mv (.t 4)),.V 9 (.mv (.t 0)),.V 10 (.len (.t 9)),.V 11 (.bin .lss (.t 8) (.t 10))] [0,3,4,11] [3]) (.cond (.t 11) .skip (.exit 0))) (.seq (.block 1 (.reg false [.V 14 (.mv (.t 3)),.V 15 (.mv (.t 4)),.V 16 (.mv (.t 0)),.V 17 (.mv (.t 4)),.V 18 (.ia 3 (.t 16) (.t 17)),.V 19 (.ld (some 3) (.t 18)),.V 20 (.call (.c (.fn 918 [])) [.t 19]),.V 21 (.ia 3 (.t 14) (.t 15)),⟨none,true,.sto 3 (.t 21) (.t 20),none,false,[]⟩] [0,3,4] [3])) (.reg false [.V 12 (.mv (.t 4)),.V 13 (.bin .add (.t 12) (.c (.int .i64 1))),.V 4 (.asg (.t 13))] [0,3,4] [3]))
def laws_toRibS_k1 : C :=
 .norm [0,3,4] [3] laws_toRibS_k0
def laws_toRibS_k2 : C :=
 .seq (.reg false [.V 22 (.mv (.t 3)),.W 2 (.asg (.t 22))] [2] [2,3]) .ret
def laws_toRibS_ir : Fn := { np := 1,io := [],res := [.t 2],own := [true],body :=
 (.seq (.reg false [.W 2 (.asg (.c (.nils 3)))] [0] []) (.seq (.reg false [.V 5 (.mv (.t 0)),.V 6 (.len (.t 5)),.V 7 (.mks 3 32 (.agg [.str [],.int .i64 0,.int .i64 0]) (.t 6) (.t 6)),.W 3 (.asg (.t 7))] [0,3] [3]) (.seq (.seq (.reg false [.V 4 (.asg (.c (.int .i64 0)))] [0,3,4] [3]) (.block 0 (.loop laws_toRibS_k1))) laws_toRibS_k2))) }
noncomputable def laws_toRibS_D : List (Nat × Callee) := [(918,laws_toRib_c)]
def laws_toRibS_H : List (Nat × ET) := [(2,T_Mode),(3,T_Mode),(5,T_Mode),(7,T_Mode),(9,T_Mode),(14,T_Mode),(16,T_Mode),(22,T_Mode)]
noncomputable def laws_toRibS_c : Callee := mkCallee laws_toRibS_D laws_toRibS_H laws_toRibS_ir [.d (.one (.sl T_Mode))] [.tok T_Mode] []
noncomputable def laws_toRibS (a0 : List T_Mode.ty) : Option (List T_Mode.ty) := laws_toRibS_c.f (a0,())
noncomputable def laws_toRibS_p0  (v0 : List T_Mode.ty) (v3n : Nat) (v4 : Int) (r3 : List T_Mode.ty) : Option (List T_Mode.ty) :=
 goL laws_toRibS_D laws_toRibS_H (vleave laws_toRibS_ir [.d (.one (.sl T_Mode))] [.tok T_Mode] [] []) [.c laws_toRibS_k0,.l laws_toRibS_k1,.e 0,.c laws_toRibS_k2]
  ⟨[(0,.sl T_Mode v0),(3,.view 3 0 v3n),(4,.int .i64 v4)],[(3,some (.sl T_Mode r3))]⟩
theorem laws_toRibS_eq (a0 : List T_Mode.ty) : laws_toRibS a0 =
 if decide (0 ≤ (a0.length : Int)) && decide ((a0.length : Int) ≤ (a0.length : Int)) && decide ((a0.length : Int).toNat < lim) then
  laws_toRibS_p0 a0 ((List.replicate ((a0.length : Int).toNat) (([],0,0,()) : T_Mode.ty)).length) 0 (List.replicate ((a0.length : Int).toNat) (([],0,0,()) : T_Mode.ty))
 else
  none :=
 (mk_f _ _ _ _ _ _ _ 4000).trans (by kernel_rfl)
theorem laws_toRibS_p0_eq  (v0 : List T_Mode.ty) (v3n : Nat) (v4 : Int) (r3 : List T_Mode.ty) : laws_toRibS_p0 v0 v3n v4 r3 =
 if decide (v4 < (v0.length : Int)) then
  if decide (0 ≤ v4) then
   (v0[v4.toNat]?).bind fun x1 =>
    (laws_toRib x1).bind fun x2 =>
     if decide (0 ≤ v4) && decide (v4 < (v3n : Int)) then
      (r3[v4.toNat]?).bind fun x3 =>
       laws_toRibS_p0 v0 v3n (IntKind.i64.wrap (v4 + 1)) (r3.set v4.toNat x2)
     else
      none
  else
   none
 else
  some (r3.take v3n) :=
 (goL_dn _ _ _ 4000 _ _).trans (by kernel_rfl)
def laws_toPeg_ir : Fn := { np := 1,io := [],res := [.cell 2 (some 4)],own := [false],body :=
 (.seq (.reg false [.W 1 (.box 4 (.t 0)),.W 2 (.alloc 4 (.agg [.str [],.int .i64 0,.int .i64 0,.int .i64 0]))] [1,2] [1,2]) (.seq (.reg false [.W 3 (.alloc 4 (.agg [.str [],.int .i64 0,.int .i64 0,.int .i64 0]))] [1,2,3] [1,2,3]) (.seq (.reg false [.V 4 (.fa 0 (.t 1)),.V 5 (.ld none (.t 4)),.V 6 (.fa 0 (.t 3)),⟨none,true,.sto 1 (.t 6) (.t 5),none,false,[]⟩] [1,2,3] [1,2,3]) (.seq (.reg false [.V 7 (.fa 1 (.t 1)),.V 8 (.ld none (.t 7)),.V 9 (.fa 1 (.t 3)),⟨none,true,.sto 1 (.t 9) (.t 8),none,false,[]⟩] [1,2,3] [1,2,3]) (.seq (.reg false [.V 10 (.fa 2 (.t 1)),.V 11 (.ld none (.t 10)),.V 12 (.fa 2 (.t 3)),⟨none,true,.sto 1 (.t 12) (.t 11),none,false,[]⟩] [1,2,3] [1,2,3]) (.seq (.reg false [.V 13 (.fa 3 (.t 1)),.V 14 (.ld none (.t 13)),.V 15 (.fa 3 (.t 3)),⟨none,true,.sto 1 (.t 15) (.t 14),none,false,[]⟩] [2,3] [2,3]) (.seq (.reg false [.V 16 (.ld (some 4) (.t 3)),⟨none,true,.sto 4 (.t 2) (.t 16),none,false,[]⟩] [2] [2]) .ret))))))) }
noncomputable def laws_toPeg_D : List (Nat × Callee) := []
def laws_toPeg_H : List (Nat × ET) := []
noncomputable def laws_toPeg_c : Callee := mkCallee laws_toPeg_D laws_toPeg_H laws_toPeg_ir [.d T_Peg] [.d T_Peg] []
noncomputable def laws_toPeg (a0 : T_Peg.ty) : Option (T_Peg.ty) := laws_toPeg_c.f (a0,())
theorem laws_toPeg_eq (a0 : T_Peg.ty) : laws_toPeg a0 =
 some a0 :=
 (mk_f _ _ _ _ _ _ _ 4000).trans (by kernel_rfl)
def laws_toPegS_k0 : C :=
 .seq (.seq (.reg false [.V 8 (.mv (.t 4)),.V 9 (.mv (.t 0)),.V 10 (.len (.t 9)),.V 11 (.bin .lss (.t 8) (.t 10))] [0,3,4,11] [3]) (.cond (.t 11) .skip (.exit 0))) (.seq (.block 1 (.reg false [.V 14 (.mv (.t 3)),.V 15 (.mv (.t 4)),.V 16 (.mv (.t 0)),.V 17 (.mv (.t 4)),.V 18 (.ia 4 (.t 16) (.t 17)),.V 19 (.ld (some 4) (.t 18)),.V 20 (.call (.c (.fn 498 [])) [.t 19]),.V 21 (.ia 4 (.t 14) (.t 15)),⟨none,true,.sto 4 (.t 21) (.t 20),none,false,[]⟩] [0,3,4] [3])) (.reg false [.V 12 (.mv (.t 4)),.V 13 (.bin .add (.t 12) (.c (.int .i64 1))),.V 4 (.asg (.t 13))] [0,3,4] [3]))
def laws_toPegS_k1 : C :=
 .norm [0,3,4] [3] laws_toPegS_k0
def laws_toPegS_k2 : C :=
 .seq (.reg false [.V 22 (.mv (.t 3)),.W 2 (.asg (.t 22))] [2] [2,3]) .ret
def laws_toPegS_ir : Fn := { np := 1,io := [],res := [.t 2],own := [true],body :=
 (.seq (.reg false [.W 2 (.asg (.c (.nils 4)))] [0] []) (.seq (.reg false [.V 5 (.mv (.t 0)),.V 6 (.len (.t 5)),.V 7 (.mks 4 40 (.agg [.str [],.int .i64 0,.int .i64 0,.int .i64 0]) (.t 6) (.t 6)),.W 3 (.asg (.t 7))] [0,3] [3]) (.seq (.seq (.reg false [.V 4 (.asg (.c (.int .i64 0)))] [0,3,4] [3]) (.block 0 (.loop laws_toPegS_k1))) laws_toPegS_k2))) }
noncomputable def laws_toPegS_D : List (Nat × Callee) := [(498,laws_toPeg_c)]
def laws_toPegS_H : List (Nat × ET) := [(2,T_Peg),(3,T_Peg),(5,T_Peg),(7,T_Peg),(9,T_Peg),(14,T_Peg),(16,T_Peg),(22,T_Peg)]
noncomputable def laws_toPegS_c : Callee := mkCallee laws_toPegS_D laws_toPegS_H laws_toPegS_ir [.d (.one (.sl T_Peg))] [.tok T_Peg] []
noncomputable def laws_toPegS (a0 : List T_Peg.ty) : Option (List T_Peg.ty) := laws_toPegS_c.f (a0,())
noncomputable def laws_toPegS_p0  (v0 : List T_Peg.ty) (v3n : Nat) (v4 : Int) (r3 : List T_Peg.ty) : Option (List T_Peg.ty) :=
 goL laws_toPegS_D laws_toPegS_H (vleave laws_toPegS_ir [.d (.one (.sl T_Peg))] [.tok T_Peg] [] []) [.c laws_toPegS_k0,.l laws_toPegS_k1,.e 0,.c laws_toPegS_k2]
  ⟨[(0,.sl T_Peg v0),(3,.view 3 0 v3n),(4,.int .i64 v4)],[(3,some (.sl T_Peg r3))]⟩
theorem laws_toPegS_eq (a0 : List T_Peg.ty) : laws_toPegS a0 =
 if decide (0 ≤ (a0.length : Int)) && decide ((a0.length : Int) ≤ (a0.length : Int)) && decide ((a0.length : Int).toNat < lim) then
  laws_toPegS_p0 a0 ((List.replicate ((a0.length : Int).toNat) (([],0,0,0,()) : T_Peg.ty)).length) 0 (List.replicate ((a0.length : Int).toNat) (([],0,0,0,()) : T_Peg.ty))
 else
  none :=
 (mk_f _ _ _ _ _ _ _ 4000).trans (by kernel_rfl)
theorem laws_toPegS_p0_eq  (v0 : List T_Peg.ty) (v3n : Nat) (v4 : Int) (r3 : List T_Peg.ty) : laws_toPegS_p0 v0 v3n v4 r3 =
 if decide (v4 < (v0.length : Int)) then
  if decide (0 ≤ v4) then
   (v0[v4.toNat]?).bind fun x1 =>
    (laws_toPeg x1).bind fun x2 =>
     if decide (0 ≤ v4) && decide (v4 < (v3n : Int)) then
      (r3[v4.toNat]?).bind fun x3 =>
       laws_toPegS_p0 v0 v3n (IntKind.i64.wrap (v4 + 1)) (r3.set v4.toNat x2)
     else
      none
  else
   none
 else
  some (r3.take v3n) :=
 (goL_dn _ _ _ 4000 _ _).trans (by kernel_rfl)
def laws_toPot_ir : Fn := { np := 1,io := [],res := [.cell 2 (some 5)],own := [false],body :=
 (.seq (.reg false [.W 1 (.box 5 (.t 0)),.W 2 (.alloc 5 (.agg [.str [],.int .i64 0,.int .i64 0,.int .i64 0,.int .i64 0]))] [1,2] [1,2]) (.seq (.reg false [.W 3 (.alloc 5 (.agg [.str [],.int .i64 0,.int .i64 0,.int .i64 0,.int .i64 0]))] [1,2,3] [1,2,3]) (.seq (.reg false [.V 4 (.fa 0 (.t 1)),.V 5 (.ld none (.t 4)),.V 6 (.fa 0 (.t 3)),⟨none,true,.sto 1 (.t 6) (.t 5),none,false,[]⟩] [1,2,3] [1,2,3]) (.seq (.reg false [.V 7 (.fa 1 (.t 1)),.V 8 (.ld none (.t 7)),.V 9 (.fa 1 (.t 3)),⟨none,true,.sto 1 (.t 9) (.t 8),none,false,[]⟩] [1,2,3] [1,2,3]) (.seq (.reg false [.V 10 (.fa 2 (.t 1)),.V 11 (.ld none (.t 10)),.V 12 (.fa 2 (.t 3)),⟨none,true,.sto 1 (.t 12) (.t 11),none,false,[]⟩] [1,2,3] [1,2,3]) (.seq (.reg false [.V 13 (.fa 3 (.t 1)),.V 14 (.ld none (.t 13)),.V 15 (.fa 3 (.t 3)),⟨none,true,.sto 1 (.t 15) (.t 14),none,false,[]⟩] [1,2,3] [1,2,3]) (.seq (.reg false [.V 16 (.fa 4 (.t 1)),.V 17 (.ld none (.t 16)),.V 18 (.fa 4 (.t 3)),⟨none,true,.sto 1 (.t 18) (.t 17),none,false,[]⟩] [2,3] [2,3]) (.seq (.reg false [.V 19 (.ld (some 5) (.t 3)),⟨none,true,.sto 5 (.t 2) (.t 19),none,false,[]⟩] [2] [2]) .ret)))))))) }
noncomputable def laws_toPot_D : List (Nat × Callee) := []
def laws_toPot_H : List (Nat × ET) := []
noncomputable def laws_toPot_c : Callee := mkCallee laws_toPot_D laws_toPot_H laws_toPot_ir [.d T_Pot] [.d T_Pot] []
noncomputable def laws_toPot (a0 : T_Pot.ty) : Option (T_Pot.ty) := laws_toPot_c.f (a0,())
theorem laws_toPot_eq (a0 : T_Pot.ty) : laws_toPot a0 =
 some a0 :=
 (mk_f _ _ _ _ _ _ _ 4000).trans (by kernel_rfl)
def laws_toPotS_k0 : C :=
 .seq (.seq (.reg false [.V 8 (.mv (.t 4)),.V 9 (.mv (.t 0)),.V 10 (.len (.t 9)),.V 11 (.bin .lss (.t 8) (.t 10))] [0,3,4,11] [3]) (.cond (.t 11) .skip (.exit 0))) (.seq (.block 1 (.reg false [.V 14 (.mv (.t 3)),.V 15 (.mv (.t 4)),.V 16 (.mv (.t 0)),.V 17 (.mv (.t 4)),.V 18 (.ia 5 (.t 16) (.t 17)),.V 19 (.ld (some 5) (.t 18)),.V 20 (.call (.c (.fn 31 [])) [.t 19]),.V 21 (.ia 5 (.t 14) (.t 15)),⟨none,true,.sto 5 (.t 21) (.t 20),none,false,[]⟩] [0,3,4] [3])) (.reg false [.V 12 (.mv (.t 4)),.V 13 (.bin .add (.t 12) (.c (.int .i64 1))),.V 4 (.asg (.t 13))] [0,3,4] [3]))
def laws_toPotS_k1 : C :=
 .norm [0,3,4] [3] laws_toPotS_k0
def laws_toPotS_k2 : C :=
 .seq (.reg false [.V 22 (.mv (.t 3)),.W 2 (.asg (.t 22))] [2] [2,3]) .ret
def laws_toPotS_ir : Fn := { np := 1,io := [],res := [.t 2],own := [true],body :=
 (.seq (.reg false [.W 2 (.asg (.c (.nils 5)))] [0] []) (.seq (.reg false [.V 5 (.mv (.t 0)),.V 6 (.len (.t 5)),.V 7 (.mks 5 48 (.agg [.str [],.int .i64 0,.int .i64 0,.int .i64 0,.int .i64 0]) (.t 6) (.t 6)),.W 3 (.asg (.t 7))] [0,3] [3]) (.seq (.seq (.reg false [.V 4 (.asg (.c (.int .i64 0)))] [0,3,4] [3]) (.block 0 (.loop laws_toPotS_k1))) laws_toPotS_k2))) }
noncomputable def laws_toPotS_D : List (Nat × Callee) := [(31,laws_toPot_c)]
def laws_toPotS_H : List (Nat × ET) := [(2,T_Pot),(3,T_Pot),(5,T_Pot),(7,T_Pot),(9,T_Pot),(14,T_Pot),(16,T_Pot),(22,T_Pot)]
noncomputable def laws_toPotS_c : Callee := mkCallee laws_toPotS_D laws_toPotS_H laws_toPotS_ir [.d (.one (.sl T_Pot))] [.tok T_Pot] []
noncomputable def laws_toPotS (a0 : List T_Pot.ty) : Option (List T_Pot.ty) := laws_toPotS_c.f (a0,())
noncomputable def laws_toPotS_p0  (v0 : List T_Pot.ty) (v3n : Nat) (v4 : Int) (r3 : List T_Pot.ty) : Option (List T_Pot.ty) :=
 goL laws_toPotS_D laws_toPotS_H (vleave laws_toPotS_ir [.d (.one (.sl T_Pot))] [.tok T_Pot] [] []) [.c laws_toPotS_k0,.l laws_toPotS_k1,.e 0,.c laws_toPotS_k2]
  ⟨[(0,.sl T_Pot v0),(3,.view 3 0 v3n),(4,.int .i64 v4)],[(3,some (.sl T_Pot r3))]⟩
theorem laws_toPotS_eq (a0 : List T_Pot.ty) : laws_toPotS a0 =
 if decide (0 ≤ (a0.length : Int)) && decide ((a0.length : Int) ≤ (a0.length : Int)) && decide ((a0.length : Int).toNat < lim) then
  laws_toPotS_p0 a0 ((List.replicate ((a0.length : Int).toNat) (([],0,0,0,0,()) : T_Pot.ty)).length) 0 (List.replicate ((a0.length : Int).toNat) (([],0,0,0,0,()) : T_Pot.ty))
 else
  none :=
 (mk_f _ _ _ _ _ _ _ 4000).trans (by kernel_rfl)
theorem laws_toPotS_p0_eq  (v0 : List T_Pot.ty) (v3n : Nat) (v4 : Int) (r3 : List T_Pot.ty) : laws_toPotS_p0 v0 v3n v4 r3 =
 if decide (v4 < (v0.length : Int)) then
  if decide (0 ≤ v4) then
   (v0[v4.toNat]?).bind fun x1 =>
    (laws_toPot x1).bind fun x2 =>
     if decide (0 ≤ v4) && decide (v4 < (v3n : Int)) then
      (r3[v4.toNat]?).bind fun x3 =>
       laws_toPotS_p0 v0 v3n (IntKind.i64.wrap (v4 + 1)) (r3.set v4.toNat x2)
     else
      none
  else
   none
 else
  some (r3.take v3n) :=
 (goL_dn _ _ _ 4000 _ _).trans (by kernel_rfl)
def laws_toMode_ir : Fn := { np := 1,io := [],res := [.cell 2 (some 3)],own := [false],body :=
 (.seq (.reg false [.W 1 (.box 3 (.t 0)),.W 2 (.alloc 3 (.agg [.str [],.int .i64 0,.int .i64 0]))] [1,2] [1,2]) (.seq (.reg false [.W 3 (.alloc 3 (.agg [.str [],.int .i64 0,.int .i64 0]))] [1,2,3] [1,2,3]) (.seq (.reg false [.V 4 (.fa 0 (.t 1)),.V 5 (.ld none (.t 4)),.V 6 (.fa 0 (.t 3)),⟨none,true,.sto 1 (.t 6) (.t 5),none,false,[]⟩] [1,2,3] [1,2,3]) (.seq (.reg false [.V 7 (.fa 1 (.t 1)),.V 8 (.ld none (.t 7)),.V 9 (.fa 1 (.t 3)),⟨none,true,.sto 1 (.t 9) (.t 8),none,false,[]⟩] [1,2,3] [1,2,3]) (.seq (.reg false [.V 10 (.fa 2 (.t 1)),.V 11 (.ld none (.t 10)),.V 12 (.fa 2 (.t 3)),⟨none,true,.sto 1 (.t 12) (.t 11),none,false,[]⟩] [2,3] [2,3]) (.seq (.reg false [.V 13 (.ld (some 3) (.t 3)),⟨none,true,.sto 3 (.t 2) (.t 13),none,false,[]⟩] [2] [2]) .ret)))))) }
noncomputable def laws_toMode_D : List (Nat × Callee) := []
def laws_toMode_H : List (Nat × ET) := []
noncomputable def laws_toMode_c : Callee := mkCallee laws_toMode_D laws_toMode_H laws_toMode_ir [.d T_Mode] [.d T_Mode] []
noncomputable def laws_toMode (a0 : T_Mode.ty) : Option (T_Mode.ty) := laws_toMode_c.f (a0,())
theorem laws_toMode_eq (a0 : T_Mode.ty) : laws_toMode a0 =
 some a0 :=
 (mk_f _ _ _ _ _ _ _ 4000).trans (by kernel_rfl)
def laws_toModeS_k0 : C :=
 .seq (.seq (.reg false [.V 8 (.mv (.t 4)),.V 9 (.mv (.t 0)),.V 10 (.len (.t 9)),.V 11 (.bin .lss (.t 8) (.t 10))] [0,3,4,11] [3]) (.cond (.t 11) .skip (.exit 0))) (.seq (.block 1 (.reg false [.V 14 (.mv (.t 3)),.V 15 (.mv (.t 4)),.V 16 (.mv (.t 0)),.V 17 (.mv (.t 4)),.V 18 (.ia 3 (.t 16) (.t 17)),.V 19 (.ld (some 3) (.t 18)),.V 20 (.call (.c (.fn 919 [])) [.t 19]),.V 21 (.ia 3 (.t 14) (.t 15)),⟨none,true,.sto 3 (.t 21) (.t 20),none,false,[]⟩] [0,3,4] [3])) (.reg false [.V 12 (.mv (.t 4)),.V 13 (.bin .add (.t 12) (.c (.int .i64 1))),.V 4 (.asg (.t 13))] [0,3,4] [3]))
def laws_toModeS_k1 : C :=
 .norm [0,3,4] [3] laws_toModeS_k0
def laws_toModeS_k2 : C :=
 .seq (.reg false [.V 22 (.mv (.t 3)),.W 2 (.asg (.t 22))] [2] [2,3]) .ret
def laws_toModeS_ir : Fn := { np := 1,io := [],res := [.t 2],own := [true],body :=
 (.seq (.reg false [.W 2 (.asg (.c (.nils 3)))] [0] []) (.seq (.reg false [.V 5 (.mv (.t 0)),.V 6 (.len (.t 5)),.V 7 (.mks 3 32 (.agg [.str [],.int .i64 0,.int .i64 0]) (.t 6) (.t 6)),.W 3 (.asg (.t 7))] [0,3] [3]) (.seq (.seq (.reg false [.V 4 (.asg (.c (.int .i64 0)))] [0,3,4] [3]) (.block 0 (.loop laws_toModeS_k1))) laws_toModeS_k2))) }
noncomputable def laws_toModeS_D : List (Nat × Callee) := [(919,laws_toMode_c)]
def laws_toModeS_H : List (Nat × ET) := [(2,T_Mode),(3,T_Mode),(5,T_Mode),(7,T_Mode),(9,T_Mode),(14,T_Mode),(16,T_Mode),(22,T_Mode)]
noncomputable def laws_toModeS_c : Callee := mkCallee laws_toModeS_D laws_toModeS_H laws_toModeS_ir [.d (.one (.sl T_Mode))] [.tok T_Mode] []
noncomputable def laws_toModeS (a0 : List T_Mode.ty) : Option (List T_Mode.ty) := laws_toModeS_c.f (a0,())
noncomputable def laws_toModeS_p0  (v0 : List T_Mode.ty) (v3n : Nat) (v4 : Int) (r3 : List T_Mode.ty) : Option (List T_Mode.ty) :=
 goL laws_toModeS_D laws_toModeS_H (vleave laws_toModeS_ir [.d (.one (.sl T_Mode))] [.tok T_Mode] [] []) [.c laws_toModeS_k0,.l laws_toModeS_k1,.e 0,.c laws_toModeS_k2]
  ⟨[(0,.sl T_Mode v0),(3,.view 3 0 v3n),(4,.int .i64 v4)],[(3,some (.sl T_Mode r3))]⟩
theorem laws_toModeS_eq (a0 : List T_Mode.ty) : laws_toModeS a0 =
 if decide (0 ≤ (a0.length : Int)) && decide ((a0.length : Int) ≤ (a0.length : Int)) && decide ((a0.length : Int).toNat < lim) then
  laws_toModeS_p0 a0 ((List.replicate ((a0.length : Int).toNat) (([],0,0,()) : T_Mode.ty)).length) 0 (List.replicate ((a0.length : Int).toNat) (([],0,0,()) : T_Mode.ty))
 else
  none :=
 (mk_f _ _ _ _ _ _ _ 4000).trans (by kernel_rfl)
theorem laws_toModeS_p0_eq  (v0 : List T_Mode.ty) (v3n : Nat) (v4 : Int) (r3 : List T_Mode.ty) : laws_toModeS_p0 v0 v3n v4 r3 =
 if decide (v4 < (v0.length : Int)) then
  if decide (0 ≤ v4) then
   (v0[v4.toNat]?).bind fun x1 =>
    (laws_toMode x1).bind fun x2 =>
     if decide (0 ≤ v4) && decide (v4 < (v3n : Int)) then
      (r3[v4.toNat]?).bind fun x3 =>
       laws_toModeS_p0 v0 v3n (IntKind.i64.wrap (v4 + 1)) (r3.set v4.toNat x2)
     else
      none
  else
   none
 else
  some (r3.take v3n) :=
 (goL_dn _ _ _ 4000 _ _).trans (by kernel_rfl)
def laws_toWork_ir : Fn := { np := 1,io := [],res := [.cell 2 (some 4)],own := [false],body :=
 (.seq (.reg false [.W 1 (.box 4 (.t 0)),.W 2 (.alloc 4 (.agg [.str [],.int .i64 0,.int .i64 0,.int .i64 0]))] [1,2] [1,2]) (.seq (.reg false [.W 3 (.alloc 4 (.agg [.str [],.int .i64 0,.int .i64 0,.int .i64 0]))] [1,2,3] [1,2,3]) (.seq (.reg false [.V 4 (.fa 0 (.t 1)),.V 5 (.ld none (.t 4)),.V 6 (.fa 0 (.t 3)),⟨none,true,.sto 1 (.t 6) (.t 5),none,false,[]⟩] [1,2,3] [1,2,3]) (.seq (.reg false [.V 7 (.fa 1 (.t 1)),.V 8 (.ld none (.t 7)),.V 9 (.fa 1 (.t 3)),⟨none,true,.sto 1 (.t 9) (.t 8),none,false,[]⟩] [1,2,3] [1,2,3]) (.seq (.reg false [.V 10 (.fa 2 (.t 1)),.V 11 (.ld none (.t 10)),.V 12 (.fa 2 (.t 3)),⟨none,true,.sto 1 (.t 12) (.t 11),none,false,[]⟩] [1,2,3] [1,2,3]) (.seq (.reg false [.V 13 (.fa 3 (.t 1)),.V 14 (.ld none (.t 13)),.V 15 (.fa 3 (.t 3)),⟨none,true,.sto 1 (.t 15) (.t 14),none,false,[]⟩] [2,3] [2,3]) (.seq (.reg false [.V 16 (.ld (some 4) (.t 3)),⟨none,true,.sto 4 (.t 2) (.t 16),none,false,[]⟩] [2] [2]) .ret))))))) }
noncomputable def laws_toWork_D : List (Nat × Callee) := []
def laws_toWork_H : List (Nat × ET) := []
noncomputable def laws_toWork_c : Callee := mkCallee laws_toWork_D laws_toWork_H laws_toWork_ir [.d T_Peg] [.d T_Peg] []
noncomputable def laws_toWork (a0 : T_Peg.ty) : Option (T_Peg.ty) := laws_toWork_c.f (a0,())
theorem laws_toWork_eq (a0 : T_Peg.ty) : laws_toWork a0 =
 some a0 :=
 (mk_f _ _ _ _ _ _ _ 4000).trans (by kernel_rfl)
def laws_toWorkS_k0 : C :=
 .seq (.seq (.reg false [.V 8 (.mv (.t 4)),.V 9 (.mv (.t 0)),.V 10 (.len (.t 9)),.V 11 (.bin .lss (.t 8) (.t 10))] [0,3,4,11] [3]) (.cond (.t 11) .skip (.exit 0))) (.seq (.block 1 (.reg false [.V 14 (.mv (.t 3)),.V 15 (.mv (.t 4)),.V 16 (.mv (.t 0)),.V 17 (.mv (.t 4)),.V 18 (.ia 4 (.t 16) (.t 17)),.V 19 (.ld (some 4) (.t 18)),.V 20 (.call (.c (.fn 920 [])) [.t 19]),.V 21 (.ia 4 (.t 14) (.t 15)),⟨none,true,.sto 4 (.t 21) (.t 20),none,false,[]⟩] [0,3,4] [3])) (.reg false [.V 12 (.mv (.t 4)),.V 13 (.bin .add (.t 12) (.c (.int .i64 1))),.V 4 (.asg (.t 13))] [0,3,4] [3]))
def laws_toWorkS_k1 : C :=
 .norm [0,3,4] [3] laws_toWorkS_k0
def laws_toWorkS_k2 : C :=
 .seq (.reg false [.V 22 (.mv (.t 3)),.W 2 (.asg (.t 22))] [2] [2,3]) .ret
def laws_toWorkS_ir : Fn := { np := 1,io := [],res := [.t 2],own := [true],body :=
 (.seq (.reg false [.W 2 (.asg (.c (.nils 4)))] [0] []) (.seq (.reg false [.V 5 (.mv (.t 0)),.V 6 (.len (.t 5)),.V 7 (.mks 4 40 (.agg [.str [],.int .i64 0,.int .i64 0,.int .i64 0]) (.t 6) (.t 6)),.W 3 (.asg (.t 7))] [0,3] [3]) (.seq (.seq (.reg false [.V 4 (.asg (.c (.int .i64 0)))] [0,3,4] [3]) (.block 0 (.loop laws_toWorkS_k1))) laws_toWorkS_k2))) }
noncomputable def laws_toWorkS_D : List (Nat × Callee) := [(920,laws_toWork_c)]
def laws_toWorkS_H : List (Nat × ET) := [(2,T_Peg),(3,T_Peg),(5,T_Peg),(7,T_Peg),(9,T_Peg),(14,T_Peg),(16,T_Peg),(22,T_Peg)]
noncomputable def laws_toWorkS_c : Callee := mkCallee laws_toWorkS_D laws_toWorkS_H laws_toWorkS_ir [.d (.one (.sl T_Peg))] [.tok T_Peg] []
noncomputable def laws_toWorkS (a0 : List T_Peg.ty) : Option (List T_Peg.ty) := laws_toWorkS_c.f (a0,())
noncomputable def laws_toWorkS_p0  (v0 : List T_Peg.ty) (v3n : Nat) (v4 : Int) (r3 : List T_Peg.ty) : Option (List T_Peg.ty) :=
 goL laws_toWorkS_D laws_toWorkS_H (vleave laws_toWorkS_ir [.d (.one (.sl T_Peg))] [.tok T_Peg] [] []) [.c laws_toWorkS_k0,.l laws_toWorkS_k1,.e 0,.c laws_toWorkS_k2]
  ⟨[(0,.sl T_Peg v0),(3,.view 3 0 v3n),(4,.int .i64 v4)],[(3,some (.sl T_Peg r3))]⟩
theorem laws_toWorkS_eq (a0 : List T_Peg.ty) : laws_toWorkS a0 =
 if decide (0 ≤ (a0.length : Int)) && decide ((a0.length : Int) ≤ (a0.length : Int)) && decide ((a0.length : Int).toNat < lim) then
  laws_toWorkS_p0 a0 ((List.replicate ((a0.length : Int).toNat) (([],0,0,0,()) : T_Peg.ty)).length) 0 (List.replicate ((a0.length : Int).toNat) (([],0,0,0,()) : T_Peg.ty))
 else
  none :=
 (mk_f _ _ _ _ _ _ _ 4000).trans (by kernel_rfl)
theorem laws_toWorkS_p0_eq  (v0 : List T_Peg.ty) (v3n : Nat) (v4 : Int) (r3 : List T_Peg.ty) : laws_toWorkS_p0 v0 v3n v4 r3 =
 if decide (v4 < (v0.length : Int)) then
  if decide (0 ≤ v4) then
   (v0[v4.toNat]?).bind fun x1 =>
    (laws_toWork x1).bind fun x2 =>
     if decide (0 ≤ v4) && decide (v4 < (v3n : Int)) then
      (r3[v4.toNat]?).bind fun x3 =>
       laws_toWorkS_p0 v0 v3n (IntKind.i64.wrap (v4 + 1)) (r3.set v4.toNat x2)
     else
      none
  else
   none
 else
  some (r3.take v3n) :=
 (goL_dn _ _ _ 4000 _ _).trans (by kernel_rfl)
def laws_toPaper_ir : Fn := { np := 1,io := [],res := [.cell 2 (some 5)],own := [false],body :=
 (.seq (.reg false [.W 1 (.box 5 (.t 0)),.W 2 (.alloc 5 (.agg [.str [],.str [],.int .i64 0,.int .i64 0,.int .i64 0]))] [1,2] [1,2]) (.seq (.reg false [.W 3 (.alloc 5 (.agg [.str [],.str [],.int .i64 0,.int .i64 0,.int .i64 0]))] [1,2,3] [1,2,3]) (.seq (.reg false [.V 4 (.fa 0 (.t 1)),.V 5 (.ld none (.t 4)),.V 6 (.fa 0 (.t 3)),⟨none,true,.sto 1 (.t 6) (.t 5),none,false,[]⟩] [1,2,3] [1,2,3]) (.seq (.reg false [.V 7 (.fa 1 (.t 1)),.V 8 (.ld none (.t 7)),.V 9 (.fa 1 (.t 3)),⟨none,true,.sto 1 (.t 9) (.t 8),none,false,[]⟩] [1,2,3] [1,2,3]) (.seq (.reg false [.V 10 (.fa 2 (.t 1)),.V 11 (.ld none (.t 10)),.V 12 (.fa 2 (.t 3)),⟨none,true,.sto 1 (.t 12) (.t 11),none,false,[]⟩] [1,2,3] [1,2,3]) (.seq (.reg false [.V 13 (.fa 3 (.t 1)),.V 14 (.ld none (.t 13)),.V 15 (.fa 3 (.t 3)),⟨none,true,.sto 1 (.t 15) (.t 14),none,false,[]⟩] [1,2,3] [1,2,3]) (.seq (.reg false [.V 16 (.fa 4 (.t 1)),.V 17 (.ld none (.t 16)),.V 18 (.fa 4 (.t 3)),⟨none,true,.sto 1 (.t 18) (.t 17),none,false,[]⟩] [2,3] [2,3]) (.seq (.reg false [.V 19 (.ld (some 5) (.t 3)),⟨none,true,.sto 5 (.t 2) (.t 19),none,false,[]⟩] [2] [2]) .ret)))))))) }
noncomputable def laws_toPaper_D : List (Nat × Callee) := []
def laws_toPaper_H : List (Nat × ET) := []
noncomputable def laws_toPaper_c : Callee := mkCallee laws_toPaper_D laws_toPaper_H laws_toPaper_ir [.d T_Paper] [.d T_Paper] []
noncomputable def laws_toPaper (a0 : T_Paper.ty) : Option (T_Paper.ty) := laws_toPaper_c.f (a0,())
theorem laws_toPaper_eq (a0 : T_Paper.ty) : laws_toPaper a0 =
 some a0 :=
 (mk_f _ _ _ _ _ _ _ 4000).trans (by kernel_rfl)
def laws_toPaperS_k0 : C :=
 .seq (.seq (.reg false [.V 8 (.mv (.t 4)),.V 9 (.mv (.t 0)),.V 10 (.len (.t 9)),.V 11 (.bin .lss (.t 8) (.t 10))] [0,3,4,11] [3]) (.cond (.t 11) .skip (.exit 0))) (.seq (.block 1 (.reg false [.V 14 (.mv (.t 3)),.V 15 (.mv (.t 4)),.V 16 (.mv (.t 0)),.V 17 (.mv (.t 4)),.V 18 (.ia 5 (.t 16) (.t 17)),.V 19 (.ld (some 5) (.t 18)),.V 20 (.call (.c (.fn 727 [])) [.t 19]),.V 21 (.ia 5 (.t 14) (.t 15)),⟨none,true,.sto 5 (.t 21) (.t 20),none,false,[]⟩] [0,3,4] [3])) (.reg false [.V 12 (.mv (.t 4)),.V 13 (.bin .add (.t 12) (.c (.int .i64 1))),.V 4 (.asg (.t 13))] [0,3,4] [3]))
def laws_toPaperS_k1 : C :=
 .norm [0,3,4] [3] laws_toPaperS_k0
def laws_toPaperS_k2 : C :=
 .seq (.reg false [.V 22 (.mv (.t 3)),.W 2 (.asg (.t 22))] [2] [2,3]) .ret
def laws_toPaperS_ir : Fn := { np := 1,io := [],res := [.t 2],own := [true],body :=
 (.seq (.reg false [.W 2 (.asg (.c (.nils 5)))] [0] []) (.seq (.reg false [.V 5 (.mv (.t 0)),.V 6 (.len (.t 5)),.V 7 (.mks 5 56 (.agg [.str [],.str [],.int .i64 0,.int .i64 0,.int .i64 0]) (.t 6) (.t 6)),.W 3 (.asg (.t 7))] [0,3] [3]) (.seq (.seq (.reg false [.V 4 (.asg (.c (.int .i64 0)))] [0,3,4] [3]) (.block 0 (.loop laws_toPaperS_k1))) laws_toPaperS_k2))) }
noncomputable def laws_toPaperS_D : List (Nat × Callee) := [(727,laws_toPaper_c)]
def laws_toPaperS_H : List (Nat × ET) := [(2,T_Paper),(3,T_Paper),(5,T_Paper),(7,T_Paper),(9,T_Paper),(14,T_Paper),(16,T_Paper),(22,T_Paper)]
noncomputable def laws_toPaperS_c : Callee := mkCallee laws_toPaperS_D laws_toPaperS_H laws_toPaperS_ir [.d (.one (.sl T_Paper))] [.tok T_Paper] []
noncomputable def laws_toPaperS (a0 : List T_Paper.ty) : Option (List T_Paper.ty) := laws_toPaperS_c.f (a0,())
noncomputable def laws_toPaperS_p0  (v0 : List T_Paper.ty) (v3n : Nat) (v4 : Int) (r3 : List T_Paper.ty) : Option (List T_Paper.ty) :=
 goL laws_toPaperS_D laws_toPaperS_H (vleave laws_toPaperS_ir [.d (.one (.sl T_Paper))] [.tok T_Paper] [] []) [.c laws_toPaperS_k0,.l laws_toPaperS_k1,.e 0,.c laws_toPaperS_k2]
  ⟨[(0,.sl T_Paper v0),(3,.view 3 0 v3n),(4,.int .i64 v4)],[(3,some (.sl T_Paper r3))]⟩
theorem laws_toPaperS_eq (a0 : List T_Paper.ty) : laws_toPaperS a0 =
 if decide (0 ≤ (a0.length : Int)) && decide ((a0.length : Int) ≤ (a0.length : Int)) && decide ((a0.length : Int).toNat < lim) then
  laws_toPaperS_p0 a0 ((List.replicate ((a0.length : Int).toNat) (([],[],0,0,0,()) : T_Paper.ty)).length) 0 (List.replicate ((a0.length : Int).toNat) (([],[],0,0,0,()) : T_Paper.ty))
 else
  none :=
 (mk_f _ _ _ _ _ _ _ 4000).trans (by kernel_rfl)
theorem laws_toPaperS_p0_eq  (v0 : List T_Paper.ty) (v3n : Nat) (v4 : Int) (r3 : List T_Paper.ty) : laws_toPaperS_p0 v0 v3n v4 r3 =
 if decide (v4 < (v0.length : Int)) then
  if decide (0 ≤ v4) then
   (v0[v4.toNat]?).bind fun x1 =>
    (laws_toPaper x1).bind fun x2 =>
     if decide (0 ≤ v4) && decide (v4 < (v3n : Int)) then
      (r3[v4.toNat]?).bind fun x3 =>
       laws_toPaperS_p0 v0 v3n (IntKind.i64.wrap (v4 + 1)) (r3.set v4.toNat x2)
     else
      none
  else
   none
 else
  some (r3.take v3n) :=
 (goL_dn _ _ _ 4000 _ _).trans (by kernel_rfl)
def laws_toInt64S_k0 : C :=
 .seq (.seq (.reg false [.V 8 (.mv (.t 4)),.V 9 (.mv (.t 0)),.V 10 (.len (.t 9)),.V 11 (.bin .lss (.t 8) (.t 10))] [0,3,4,11] [3]) (.cond (.t 11) .skip (.exit 0))) (.seq (.block 1 (.reg false [.V 14 (.mv (.t 3)),.V 15 (.mv (.t 4)),.V 16 (.mv (.t 0)),.V 17 (.mv (.t 4)),.V 18 (.ia 1 (.t 16) (.t 17)),.V 19 (.ld none (.t 18)),.V 20 (.ia 1 (.t 14) (.t 15)),⟨none,true,.sto 1 (.t 20) (.t 19),none,false,[]⟩] [0,3,4] [3])) (.reg false [.V 12 (.mv (.t 4)),.V 13 (.bin .add (.t 12) (.c (.int .i64 1))),.V 4 (.asg (.t 13))] [0,3,4] [3]))
def laws_toInt64S_k1 : C :=
 .norm [0,3,4] [3] laws_toInt64S_k0
def laws_toInt64S_k2 : C :=
 .seq (.reg false [.V 21 (.mv (.t 3)),.W 2 (.asg (.t 21))] [2] [2,3]) .ret
def laws_toInt64S_ir : Fn := { np := 1,io := [],res := [.t 2],own := [true],body :=
 (.seq (.reg false [.W 2 (.asg (.c (.nils 1)))] [0] []) (.seq (.reg false [.V 5 (.mv (.t 0)),.V 6 (.len (.t 5)),.V 7 (.mks 1 8 (.int .i64 0) (.t 6) (.t 6)),.W 3 (.asg (.t 7))] [0,3] [3]) (.seq (.seq (.reg false [.V 4 (.asg (.c (.int .i64 0)))] [0,3,4] [3]) (.block 0 (.loop laws_toInt64S_k1))) laws_toInt64S_k2))) }
noncomputable def laws_toInt64S_D : List (Nat × Callee) := []
def laws_toInt64S_H : List (Nat × ET) := [(2,(.one (.int .i64))),(3,(.one (.int .i64))),(5,(.one (.int .i64))),(7,(.one (.int .i64))),(9,(.one (.int .i64))),(14,(.one (.int .i64))),(16,(.one (.int .i64))),(21,(.one (.int .i64)))]
noncomputable def laws_toInt64S_c : Callee := mkCallee laws_toInt64S_D laws_toInt64S_H laws_toInt64S_ir [.d (.one (.sl (.one (.int .i64))))] [.tok (.one (.int .i64))] []
noncomputable def laws_toInt64S (a0 : List Int) : Option (List Int) := laws_toInt64S_c.f (a0,())
noncomputable def laws_toInt64S_p0  (v0 : List Int) (v3n : Nat) (v4 : Int) (r3 : List Int) : Option (List Int) :=
 goL laws_toInt64S_D laws_toInt64S_H (vleave laws_toInt64S_ir [.d (.one (.sl (.one (.int .i64))))] [.tok (.one (.int .i64))] [] []) [.c laws_toInt64S_k0,.l laws_toInt64S_k1,.e 0,.c laws_toInt64S_k2]
  ⟨[(0,.sl (.one (.int .i64)) v0),(3,.view 3 0 v3n),(4,.int .i64 v4)],[(3,some (.sl (.one (.int .i64)) r3))]⟩
theorem laws_toInt64S_eq (a0 : List Int) : laws_toInt64S a0 =
 if decide (0 ≤ (a0.length : Int)) && decide ((a0.length : Int) ≤ (a0.length : Int)) && decide ((a0.length : Int).toNat < lim) then
  laws_toInt64S_p0 a0 ((List.replicate ((a0.length : Int).toNat) (0 : Int)).length) 0 (List.replicate ((a0.length : Int).toNat) (0 : Int))
 else
  none :=
 (mk_f _ _ _ _ _ _ _ 4000).trans (by kernel_rfl)
theorem laws_toInt64S_p0_eq  (v0 : List Int) (v3n : Nat) (v4 : Int) (r3 : List Int) : laws_toInt64S_p0 v0 v3n v4 r3 =
 if decide (v4 < (v0.length : Int)) then
  if decide (0 ≤ v4) then
   (v0[v4.toNat]?).bind fun x1 =>
    if decide (0 ≤ v4) && decide (v4 < (v3n : Int)) then
     (r3[v4.toNat]?).bind fun x2 =>
      laws_toInt64S_p0 v0 v3n (IntKind.i64.wrap (v4 + 1)) (r3.set v4.toNat x1)
    else
     none
  else
   none
 else
  some (r3.take v3n) :=
 (goL_dn _ _ _ 4000 _ _).trans (by kernel_rfl)
def laws_markText_k0 : C :=
 .seq (.seq (.reg false [.V 6 (.mv (.t 0)),.V 7 (.bin .gtr (.t 6) (.c (.int .i64 0)))] [0,3,7] []) (.cond (.t 7) .skip (.exit 0))) (.block 1 (.seq (.reg false [.V 8 (.mv (.t 0)),.V 9 (.bin .rem (.t 8) (.c (.int .i64 10))),.V 10 (.bin .add (.c (.int .i64 48)) (.t 9)),.V 11 (.conv (.int .u8) (.t 10)),.V 12 (.bsl 1 (.int .u8 0) 1 [(0,.t 11)]),.V 13 (.conv .bytesStr (.t 12)),.V 14 (.mv (.t 3)),.V 15 (.bin .add (.t 13) (.t 14)),.V 3 (.asg (.t 15))] [0,3] []) (.reg false [.V 16 (.mv (.t 0)),.V 17 (.bin .quo (.t 16) (.c (.int .i64 10))),.V 0 (.asg (.t 17))] [0,3] [])))
def laws_markText_k1 : C :=
 .norm [0,3] [] laws_markText_k0
def laws_markText_k2 : C :=
 .seq (.reg false [.V 18 (.mv (.t 3)),.V 19 (.bin .add (.c (.str [109])) (.t 18)),.V 2 (.asg (.t 19))] [2] []) .ret
def laws_markText_ir : Fn := { np := 1,io := [],res := [.t 2],own := [false],body :=
 (.seq (.reg false [.V 2 (.asg (.c (.str [])))] [0] []) (.seq (.seq (.reg false [.V 4 (.mv (.t 0)),.V 5 (.bin .leq (.t 4) (.c (.int .i64 0)))] [0,5] []) (.cond (.t 5) (.seq (.reg false [.V 2 (.asg (.c (.str [109,48])))] [2] []) .ret) .skip)) (.seq (.reg false [.V 3 (.asg (.c (.str [])))] [0,3] []) (.seq (.block 0 (.loop laws_markText_k1)) laws_markText_k2)))) }
noncomputable def laws_markText_D : List (Nat × Callee) := []
def laws_markText_H : List (Nat × ET) := [(12,(.one (.int .u8)))]
noncomputable def laws_markText_c : Callee := mkCallee laws_markText_D laws_markText_H laws_markText_ir [.d (.one (.int .i64))] [.d (.one .str)] []
noncomputable def laws_markText (a0 : Int) : Option (List UInt8) := laws_markText_c.f (a0,())
noncomputable def laws_markText_p0  (v0 : Int) (v3 : List UInt8) : Option (List UInt8) :=
 goL laws_markText_D laws_markText_H (vleave laws_markText_ir [.d (.one (.int .i64))] [.d (.one .str)] [] []) [.c laws_markText_k0,.l laws_markText_k1,.e 0,.c laws_markText_k2]
  ⟨[(0,.int .i64 v0),(3,.str v3)],[]⟩
theorem laws_markText_eq (a0 : Int) : laws_markText a0 =
 if decide (a0 ≤ 0) then
  some [109,48]
 else
  laws_markText_p0 a0 [] :=
 (mk_f _ _ _ _ _ _ _ 4000).trans (by kernel_rfl)
theorem laws_markText_p0_eq  (v0 : Int) (v3 : List UInt8) : laws_markText_p0 v0 v3 =
 if decide (v0 > 0) then
  if decide (([IntKind.u8.wrap (IntKind.i64.wrap (48 + (v0.tmod 10)))].map vu8).length + v3.length ≤ strMax) then
   laws_markText_p0 (IntKind.i64.wrap (v0.tdiv 10)) (([IntKind.u8.wrap (IntKind.i64.wrap (48 + (v0.tmod 10)))].map vu8) ++ v3)
  else
   none
 else
  if decide ([109].length + v3.length ≤ strMax) then
   some ([109] ++ v3)
  else
   none :=
 (goL_dn _ _ _ 4000 _ _).trans (by kernel_rfl)
def laws_markStackS_k0 : C :=
 .seq (.seq (.reg false [.V 6 (.mv (.t 5)),.V 7 (.mv (.t 0)),.V 8 (.len (.t 7)),.V 9 (.bin .lss (.t 6) (.t 8))] [0,1,5,9] [0]) (.cond (.t 9) .skip (.exit 0))) (.seq (.block 1 (.seq (.reg false [.V 12 (.mv (.t 0)),.V 13 (.mv (.t 5)),.V 14 (.mv (.t 1)),.V 15 (.call (.c (.fn 40 [])) [.t 14]),.V 16 (.ia 4 (.t 12) (.t 13)),.V 17 (.fa 0 (.t 16)),⟨none,true,.sto 1 (.t 17) (.t 15),none,false,[]⟩] [0,1,5] [0]) (.seq (.reg false [.V 18 (.mv (.t 1)),.V 19 (.bin .add (.t 18) (.c (.int .i64 1))),.V 1 (.asg (.t 19))] [0,1,5] [0]) (.seq (.reg false [.V 20 (.mv (.t 0)),.V 21 (.mv (.t 5)),.V 22 (.mv (.t 1)),.V 23 (.ia 4 (.t 20) (.t 21)),.V 24 (.fa 1 (.t 23)),⟨none,true,.sto 1 (.t 24) (.t 22),none,false,[]⟩] [0,1,5] [0]) (.seq (.reg false [.V 25 (.mv (.t 1)),.V 26 (.bin .add (.t 25) (.c (.int .i64 1))),.V 1 (.asg (.t 26))] [0,1,5] [0]) (.seq (.reg false [.V 27 (.mv (.t 0)),.V 28 (.mv (.t 5)),.V 29 (.mv (.t 1)),.V 30 (.ia 4 (.t 27) (.t 28)),.V 31 (.fa 2 (.t 30)),⟨none,true,.sto 1 (.t 31) (.t 29),none,false,[]⟩] [0,1,5] [0]) (.seq (.reg false [.V 32 (.mv (.t 1)),.V 33 (.bin .add (.t 32) (.c (.int .i64 1))),.V 1 (.asg (.t 33))] [0,1,5] [0]) (.seq (.reg false [.V 34 (.mv (.t 0)),.V 35 (.mv (.t 5)),.V 36 (.mv (.t 1)),.V 37 (.ia 4 (.t 34) (.t 35)),.V 38 (.fa 3 (.t 37)),⟨none,true,.sto 1 (.t 38) (.t 36),none,false,[]⟩] [0,1,5] [0]) (.reg false [.V 39 (.mv (.t 1)),.V 40 (.bin .add (.t 39) (.c (.int .i64 1))),.V 1 (.asg (.t 40))] [0,1,5] [0]))))))))) (.reg false [.V 10 (.mv (.t 5)),.V 11 (.bin .add (.t 10) (.c (.int .i64 1))),.V 5 (.asg (.t 11))] [0,1,5] [0]))
def laws_markStackS_k1 : C :=
 .norm [0,1,5] [0] laws_markStackS_k0
def laws_markStackS_k2 : C :=
 .seq (.reg false [.V 41 (.mv (.t 1)),.V 4 (.asg (.t 41))] [0,4] [0]) .ret
def laws_markStackS_ir : Fn := { np := 2,io := [true,false],res := [.t 4],own := [false],body :=
 (.seq (.reg false [.V 4 (.asg (.c (.int .i64 0)))] [0,1] [0]) (.seq (.seq (.reg false [.V 5 (.asg (.c (.int .i64 0)))] [0,1,5] [0]) (.block 0 (.loop laws_markStackS_k1))) laws_markStackS_k2)) }
noncomputable def laws_markStackS_D : List (Nat × Callee) := [(40,laws_markText_c)]
def laws_markStackS_H : List (Nat × ET) := [(7,T_Peg),(12,T_Peg),(20,T_Peg),(27,T_Peg),(34,T_Peg)]
noncomputable def laws_markStackS_c : Callee := mkCallee laws_markStackS_D laws_markStackS_H laws_markStackS_ir [.ios T_Peg,.d (.one (.int .i64))] [.d (.one (.int .i64))] [.ios T_Peg]
noncomputable def laws_markStackS (a0 : List T_Peg.ty) (a1 : Int) : Option (Int × List T_Peg.ty) := laws_markStackS_c.f (a0,a1,())
noncomputable def laws_markStackS_p0 (l0 : Nat) (v0n : Nat) (v1 : Int) (v5 : Int) (r0 : List T_Peg.ty) : Option (Int × List T_Peg.ty) :=
 goL laws_markStackS_D laws_markStackS_H (vleave laws_markStackS_ir [.ios T_Peg,.d (.one (.int .i64))] [.d (.one (.int .i64))] [.ios T_Peg] [l0]) [.c laws_markStackS_k0,.l laws_markStackS_k1,.e 0,.c laws_markStackS_k2]
  ⟨[(0,.view 0 0 v0n),(1,.int .i64 v1),(5,.int .i64 v5)],[(0,some (.sl T_Peg r0))]⟩
theorem laws_markStackS_eq (a0 : List T_Peg.ty) (a1 : Int) : laws_markStackS a0 a1 =
 laws_markStackS_p0 a0.length a0.length a1 0 a0 :=
 (mk_f _ _ _ _ _ _ _ 4000).trans (by kernel_rfl)
theorem laws_markStackS_p0_eq (l0 : Nat) (v0n : Nat) (v1 : Int) (v5 : Int) (r0 : List T_Peg.ty) : laws_markStackS_p0 l0 v0n v1 v5 r0 =
 if decide (v5 < (v0n : Int)) then
  (laws_markText v1).bind fun x1 =>
   if decide (0 ≤ v5) && decide (v5 < (v0n : Int)) then
    (r0[v5.toNat]?).bind fun x2 =>
     if decide (0 ≤ v5) && decide (v5 < (v0n : Int)) then
      ((r0.set v5.toNat (x1,x2.2.1,x2.2.2.1,x2.2.2.2.1,()))[v5.toNat]?).bind fun x3 =>
       if decide (0 ≤ v5) && decide (v5 < (v0n : Int)) then
        (((r0.set v5.toNat (x1,x2.2.1,x2.2.2.1,x2.2.2.2.1,())).set v5.toNat (x3.1,IntKind.i64.wrap (v1 + 1),x3.2.2.1,x3.2.2.2.1,()))[v5.toNat]?).bind fun x4 =>
         if decide (0 ≤ v5) && decide (v5 < (v0n : Int)) then
          ((((r0.set v5.toNat (x1,x2.2.1,x2.2.2.1,x2.2.2.2.1,())).set v5.toNat (x3.1,IntKind.i64.wrap (v1 + 1),x3.2.2.1,x3.2.2.2.1,())).set v5.toNat (x4.1,x4.2.1,IntKind.i64.wrap ((IntKind.i64.wrap (v1 + 1)) + 1),x4.2.2.2.1,()))[v5.toNat]?).bind fun x5 =>
           laws_markStackS_p0 l0 v0n (IntKind.i64.wrap ((IntKind.i64.wrap ((IntKind.i64.wrap ((IntKind.i64.wrap (v1 + 1)) + 1)) + 1)) + 1)) (IntKind.i64.wrap (v5 + 1)) ((((r0.set v5.toNat (x1,x2.2.1,x2.2.2.1,x2.2.2.2.1,())).set v5.toNat (x3.1,IntKind.i64.wrap (v1 + 1),x3.2.2.1,x3.2.2.2.1,())).set v5.toNat (x4.1,x4.2.1,IntKind.i64.wrap ((IntKind.i64.wrap (v1 + 1)) + 1),x4.2.2.2.1,())).set v5.toNat (x5.1,x5.2.1,x5.2.2.1,IntKind.i64.wrap ((IntKind.i64.wrap ((IntKind.i64.wrap (v1 + 1)) + 1)) + 1),()))
         else
          none
       else
        none
     else
      none
   else
    none
 else
  if decide (r0.length = l0) then
   some (v1,r0)
  else
   none :=
 (goL_dn _ _ _ 4000 _ _).trans (by kernel_rfl)
def laws_markRibS_k0 : C :=
 .seq (.seq (.reg false [.V 6 (.mv (.t 5)),.V 7 (.mv (.t 0)),.V 8 (.len (.t 7)),.V 9 (.bin .lss (.t 6) (.t 8))] [0,1,5,9] [0]) (.cond (.t 9) .skip (.exit 0))) (.seq (.block 1 (.seq (.reg false [.V 12 (.mv (.t 0)),.V 13 (.mv (.t 5)),.V 14 (.mv (.t 1)),.V 15 (.call (.c (.fn 40 [])) [.t 14]),.V 16 (.ia 3 (.t 12) (.t 13)),.V 17 (.fa 0 (.t 16)),⟨none,true,.sto 1 (.t 17) (.t 15),none,false,[]⟩] [0,1,5] [0]) (.seq (.reg false [.V 18 (.mv (.t 1)),.V 19 (.bin .add (.t 18) (.c (.int .i64 1))),.V 1 (.asg (.t 19))] [0,1,5] [0]) (.seq (.reg false [.V 20 (.mv (.t 0)),.V 21 (.mv (.t 5)),.V 22 (.mv (.t 1)),.V 23 (.ia 3 (.t 20) (.t 21)),.V 24 (.fa 1 (.t 23)),⟨none,true,.sto 1 (.t 24) (.t 22),none,false,[]⟩] [0,1,5] [0]) (.seq (.reg false [.V 25 (.mv (.t 1)),.V 26 (.bin .add (.t 25) (.c (.int .i64 1))),.V 1 (.asg (.t 26))] [0,1,5] [0]) (.seq (.reg false [.V 27 (.mv (.t 0)),.V 28 (.mv (.t 5)),.V 29 (.mv (.t 1)),.V 30 (.ia 3 (.t 27) (.t 28)),.V 31 (.fa 2 (.t 30)),⟨none,true,.sto 1 (.t 31) (.t 29),none,false,[]⟩] [0,1,5] [0]) (.reg false [.V 32 (.mv (.t 1)),.V 33 (.bin .add (.t 32) (.c (.int .i64 1))),.V 1 (.asg (.t 33))] [0,1,5] [0]))))))) (.reg false [.V 10 (.mv (.t 5)),.V 11 (.bin .add (.t 10) (.c (.int .i64 1))),.V 5 (.asg (.t 11))] [0,1,5] [0]))
def laws_markRibS_k1 : C :=
 .norm [0,1,5] [0] laws_markRibS_k0
def laws_markRibS_k2 : C :=
 .seq (.reg false [.V 34 (.mv (.t 1)),.V 4 (.asg (.t 34))] [0,4] [0]) .ret
def laws_markRibS_ir : Fn := { np := 2,io := [true,false],res := [.t 4],own := [false],body :=
 (.seq (.reg false [.V 4 (.asg (.c (.int .i64 0)))] [0,1] [0]) (.seq (.seq (.reg false [.V 5 (.asg (.c (.int .i64 0)))] [0,1,5] [0]) (.block 0 (.loop laws_markRibS_k1))) laws_markRibS_k2)) }
noncomputable def laws_markRibS_D : List (Nat × Callee) := [(40,laws_markText_c)]
def laws_markRibS_H : List (Nat × ET) := [(7,T_Mode),(12,T_Mode),(20,T_Mode),(27,T_Mode)]
noncomputable def laws_markRibS_c : Callee := mkCallee laws_markRibS_D laws_markRibS_H laws_markRibS_ir [.ios T_Mode,.d (.one (.int .i64))] [.d (.one (.int .i64))] [.ios T_Mode]
noncomputable def laws_markRibS (a0 : List T_Mode.ty) (a1 : Int) : Option (Int × List T_Mode.ty) := laws_markRibS_c.f (a0,a1,())
noncomputable def laws_markRibS_p0 (l0 : Nat) (v0n : Nat) (v1 : Int) (v5 : Int) (r0 : List T_Mode.ty) : Option (Int × List T_Mode.ty) :=
 goL laws_markRibS_D laws_markRibS_H (vleave laws_markRibS_ir [.ios T_Mode,.d (.one (.int .i64))] [.d (.one (.int .i64))] [.ios T_Mode] [l0]) [.c laws_markRibS_k0,.l laws_markRibS_k1,.e 0,.c laws_markRibS_k2]
  ⟨[(0,.view 0 0 v0n),(1,.int .i64 v1),(5,.int .i64 v5)],[(0,some (.sl T_Mode r0))]⟩
theorem laws_markRibS_eq (a0 : List T_Mode.ty) (a1 : Int) : laws_markRibS a0 a1 =
 laws_markRibS_p0 a0.length a0.length a1 0 a0 :=
 (mk_f _ _ _ _ _ _ _ 4000).trans (by kernel_rfl)
theorem laws_markRibS_p0_eq (l0 : Nat) (v0n : Nat) (v1 : Int) (v5 : Int) (r0 : List T_Mode.ty) : laws_markRibS_p0 l0 v0n v1 v5 r0 =
 if decide (v5 < (v0n : Int)) then
  (laws_markText v1).bind fun x1 =>
   if decide (0 ≤ v5) && decide (v5 < (v0n : Int)) then
    (r0[v5.toNat]?).bind fun x2 =>
     if decide (0 ≤ v5) && decide (v5 < (v0n : Int)) then
      ((r0.set v5.toNat (x1,x2.2.1,x2.2.2.1,()))[v5.toNat]?).bind fun x3 =>
       if decide (0 ≤ v5) && decide (v5 < (v0n : Int)) then
        (((r0.set v5.toNat (x1,x2.2.1,x2.2.2.1,())).set v5.toNat (x3.1,IntKind.i64.wrap (v1 + 1),x3.2.2.1,()))[v5.toNat]?).bind fun x4 =>
         laws_markRibS_p0 l0 v0n (IntKind.i64.wrap ((IntKind.i64.wrap ((IntKind.i64.wrap (v1 + 1)) + 1)) + 1)) (IntKind.i64.wrap (v5 + 1)) (((r0.set v5.toNat (x1,x2.2.1,x2.2.2.1,())).set v5.toNat (x3.1,IntKind.i64.wrap (v1 + 1),x3.2.2.1,())).set v5.toNat (x4.1,x4.2.1,IntKind.i64.wrap ((IntKind.i64.wrap (v1 + 1)) + 1),()))
       else
        none
     else
      none
   else
    none
 else
  if decide (r0.length = l0) then
   some (v1,r0)
  else
   none :=
 (goL_dn _ _ _ 4000 _ _).trans (by kernel_rfl)
def laws_markPegS_k0 : C :=
 .seq (.seq (.reg false [.V 6 (.mv (.t 5)),.V 7 (.mv (.t 0)),.V 8 (.len (.t 7)),.V 9 (.bin .lss (.t 6) (.t 8))] [0,1,5,9] [0]) (.cond (.t 9) .skip (.exit 0))) (.seq (.block 1 (.seq (.reg false [.V 12 (.mv (.t 0)),.V 13 (.mv (.t 5)),.V 14 (.mv (.t 1)),.V 15 (.call (.c (.fn 40 [])) [.t 14]),.V 16 (.ia 4 (.t 12) (.t 13)),.V 17 (.fa 0 (.t 16)),⟨none,true,.sto 1 (.t 17) (.t 15),none,false,[]⟩] [0,1,5] [0]) (.seq (.reg false [.V 18 (.mv (.t 1)),.V 19 (.bin .add (.t 18) (.c (.int .i64 1))),.V 1 (.asg (.t 19))] [0,1,5] [0]) (.seq (.reg false [.V 20 (.mv (.t 0)),.V 21 (.mv (.t 5)),.V 22 (.mv (.t 1)),.V 23 (.ia 4 (.t 20) (.t 21)),.V 24 (.fa 1 (.t 23)),⟨none,true,.sto 1 (.t 24) (.t 22),none,false,[]⟩] [0,1,5] [0]) (.seq (.reg false [.V 25 (.mv (.t 1)),.V 26 (.bin .add (.t 25) (.c (.int .i64 1))),.V 1 (.asg (.t 26))] [0,1,5] [0]) (.seq (.reg false [.V 27 (.mv (.t 0)),.V 28 (.mv (.t 5)),.V 29 (.mv (.t 1)),.V 30 (.ia 4 (.t 27) (.t 28)),.V 31 (.fa 2 (.t 30)),⟨none,true,.sto 1 (.t 31) (.t 29),none,false,[]⟩] [0,1,5] [0]) (.seq (.reg false [.V 32 (.mv (.t 1)),.V 33 (.bin .add (.t 32) (.c (.int .i64 1))),.V 1 (.asg (.t 33))] [0,1,5] [0]) (.seq (.reg false [.V 34 (.mv (.t 0)),.V 35 (.mv (.t 5)),.V 36 (.mv (.t 1)),.V 37 (.ia 4 (.t 34) (.t 35)),.V 38 (.fa 3 (.t 37)),⟨none,true,.sto 1 (.t 38) (.t 36),none,false,[]⟩] [0,1,5] [0]) (.reg false [.V 39 (.mv (.t 1)),.V 40 (.bin .add (.t 39) (.c (.int .i64 1))),.V 1 (.asg (.t 40))] [0,1,5] [0]))))))))) (.reg false [.V 10 (.mv (.t 5)),.V 11 (.bin .add (.t 10) (.c (.int .i64 1))),.V 5 (.asg (.t 11))] [0,1,5] [0]))
def laws_markPegS_k1 : C :=
 .norm [0,1,5] [0] laws_markPegS_k0
def laws_markPegS_k2 : C :=
 .seq (.reg false [.V 41 (.mv (.t 1)),.V 4 (.asg (.t 41))] [0,4] [0]) .ret
def laws_markPegS_ir : Fn := { np := 2,io := [true,false],res := [.t 4],own := [false],body :=
 (.seq (.reg false [.V 4 (.asg (.c (.int .i64 0)))] [0,1] [0]) (.seq (.seq (.reg false [.V 5 (.asg (.c (.int .i64 0)))] [0,1,5] [0]) (.block 0 (.loop laws_markPegS_k1))) laws_markPegS_k2)) }
noncomputable def laws_markPegS_D : List (Nat × Callee) := [(40,laws_markText_c)]
def laws_markPegS_H : List (Nat × ET) := [(7,T_Peg),(12,T_Peg),(20,T_Peg),(27,T_Peg),(34,T_Peg)]
noncomputable def laws_markPegS_c : Callee := mkCallee laws_markPegS_D laws_markPegS_H laws_markPegS_ir [.ios T_Peg,.d (.one (.int .i64))] [.d (.one (.int .i64))] [.ios T_Peg]
noncomputable def laws_markPegS (a0 : List T_Peg.ty) (a1 : Int) : Option (Int × List T_Peg.ty) := laws_markPegS_c.f (a0,a1,())
noncomputable def laws_markPegS_p0 (l0 : Nat) (v0n : Nat) (v1 : Int) (v5 : Int) (r0 : List T_Peg.ty) : Option (Int × List T_Peg.ty) :=
 goL laws_markPegS_D laws_markPegS_H (vleave laws_markPegS_ir [.ios T_Peg,.d (.one (.int .i64))] [.d (.one (.int .i64))] [.ios T_Peg] [l0]) [.c laws_markPegS_k0,.l laws_markPegS_k1,.e 0,.c laws_markPegS_k2]
  ⟨[(0,.view 0 0 v0n),(1,.int .i64 v1),(5,.int .i64 v5)],[(0,some (.sl T_Peg r0))]⟩
theorem laws_markPegS_eq (a0 : List T_Peg.ty) (a1 : Int) : laws_markPegS a0 a1 =
 laws_markPegS_p0 a0.length a0.length a1 0 a0 :=
 (mk_f _ _ _ _ _ _ _ 4000).trans (by kernel_rfl)
theorem laws_markPegS_p0_eq (l0 : Nat) (v0n : Nat) (v1 : Int) (v5 : Int) (r0 : List T_Peg.ty) : laws_markPegS_p0 l0 v0n v1 v5 r0 =
 if decide (v5 < (v0n : Int)) then
  (laws_markText v1).bind fun x1 =>
   if decide (0 ≤ v5) && decide (v5 < (v0n : Int)) then
    (r0[v5.toNat]?).bind fun x2 =>
     if decide (0 ≤ v5) && decide (v5 < (v0n : Int)) then
      ((r0.set v5.toNat (x1,x2.2.1,x2.2.2.1,x2.2.2.2.1,()))[v5.toNat]?).bind fun x3 =>
       if decide (0 ≤ v5) && decide (v5 < (v0n : Int)) then
        (((r0.set v5.toNat (x1,x2.2.1,x2.2.2.1,x2.2.2.2.1,())).set v5.toNat (x3.1,IntKind.i64.wrap (v1 + 1),x3.2.2.1,x3.2.2.2.1,()))[v5.toNat]?).bind fun x4 =>
         if decide (0 ≤ v5) && decide (v5 < (v0n : Int)) then
          ((((r0.set v5.toNat (x1,x2.2.1,x2.2.2.1,x2.2.2.2.1,())).set v5.toNat (x3.1,IntKind.i64.wrap (v1 + 1),x3.2.2.1,x3.2.2.2.1,())).set v5.toNat (x4.1,x4.2.1,IntKind.i64.wrap ((IntKind.i64.wrap (v1 + 1)) + 1),x4.2.2.2.1,()))[v5.toNat]?).bind fun x5 =>
           laws_markPegS_p0 l0 v0n (IntKind.i64.wrap ((IntKind.i64.wrap ((IntKind.i64.wrap ((IntKind.i64.wrap (v1 + 1)) + 1)) + 1)) + 1)) (IntKind.i64.wrap (v5 + 1)) ((((r0.set v5.toNat (x1,x2.2.1,x2.2.2.1,x2.2.2.2.1,())).set v5.toNat (x3.1,IntKind.i64.wrap (v1 + 1),x3.2.2.1,x3.2.2.2.1,())).set v5.toNat (x4.1,x4.2.1,IntKind.i64.wrap ((IntKind.i64.wrap (v1 + 1)) + 1),x4.2.2.2.1,())).set v5.toNat (x5.1,x5.2.1,x5.2.2.1,IntKind.i64.wrap ((IntKind.i64.wrap ((IntKind.i64.wrap (v1 + 1)) + 1)) + 1),()))
         else
          none
       else
        none
     else
      none
   else
    none
 else
  if decide (r0.length = l0) then
   some (v1,r0)
  else
   none :=
 (goL_dn _ _ _ 4000 _ _).trans (by kernel_rfl)
def laws_markPotS_k0 : C :=
 .seq (.seq (.reg false [.V 6 (.mv (.t 5)),.V 7 (.mv (.t 0)),.V 8 (.len (.t 7)),.V 9 (.bin .lss (.t 6) (.t 8))] [0,1,5,9] [0]) (.cond (.t 9) .skip (.exit 0))) (.seq (.block 1 (.seq (.reg false [.V 12 (.mv (.t 0)),.V 13 (.mv (.t 5)),.V 14 (.mv (.t 1)),.V 15 (.call (.c (.fn 40 [])) [.t 14]),.V 16 (.ia 5 (.t 12) (.t 13)),.V 17 (.fa 0 (.t 16)),⟨none,true,.sto 1 (.t 17) (.t 15),none,false,[]⟩] [0,1,5] [0]) (.seq (.reg false [.V 18 (.mv (.t 1)),.V 19 (.bin .add (.t 18) (.c (.int .i64 1))),.V 1 (.asg (.t 19))] [0,1,5] [0]) (.seq (.reg false [.V 20 (.mv (.t 0)),.V 21 (.mv (.t 5)),.V 22 (.mv (.t 1)),.V 23 (.ia 5 (.t 20) (.t 21)),.V 24 (.fa 1 (.t 23)),⟨none,true,.sto 1 (.t 24) (.t 22),none,false,[]⟩] [0,1,5] [0]) (.seq (.reg false [.V 25 (.mv (.t 1)),.V 26 (.bin .add (.t 25) (.c (.int .i64 1))),.V 1 (.asg (.t 26))] [0,1,5] [0]) (.seq (.reg false [.V 27 (.mv (.t 0)),.V 28 (.mv (.t 5)),.V 29 (.mv (.t 1)),.V 30 (.ia 5 (.t 27) (.t 28)),.V 31 (.fa 2 (.t 30)),⟨none,true,.sto 1 (.t 31) (.t 29),none,false,[]⟩] [0,1,5] [0]) (.seq (.reg false [.V 32 (.mv (.t 1)),.V 33 (.bin .add (.t 32) (.c (.int .i64 1))),.V 1 (.asg (.t 33))] [0,1,5] [0]) (.seq (.reg false [.V 34 (.mv (.t 0)),.V 35 (.mv (.t 5)),.V 36 (.mv (.t 1)),.V 37 (.ia 5 (.t 34) (.t 35)),.V 38 (.fa 3 (.t 37)),⟨none,true,.sto 1 (.t 38) (.t 36),none,false,[]⟩] [0,1,5] [0]) (.seq (.reg false [.V 39 (.mv (.t 1)),.V 40 (.bin .add (.t 39) (.c (.int .i64 1))),.V 1 (.asg (.t 40))] [0,1,5] [0]) (.seq (.reg false [.V 41 (.mv (.t 0)),.V 42 (.mv (.t 5)),.V 43 (.mv (.t 1)),.V 44 (.ia 5 (.t 41) (.t 42)),.V 45 (.fa 4 (.t 44)),⟨none,true,.sto 1 (.t 45) (.t 43),none,false,[]⟩] [0,1,5] [0]) (.reg false [.V 46 (.mv (.t 1)),.V 47 (.bin .add (.t 46) (.c (.int .i64 1))),.V 1 (.asg (.t 47))] [0,1,5] [0]))))))))))) (.reg false [.V 10 (.mv (.t 5)),.V 11 (.bin .add (.t 10) (.c (.int .i64 1))),.V 5 (.asg (.t 11))] [0,1,5] [0]))
def laws_markPotS_k1 : C :=
 .norm [0,1,5] [0] laws_markPotS_k0
def laws_markPotS_k2 : C :=
 .seq (.reg false [.V 48 (.mv (.t 1)),.V 4 (.asg (.t 48))] [0,4] [0]) .ret
def laws_markPotS_ir : Fn := { np := 2,io := [true,false],res := [.t 4],own := [false],body :=
 (.seq (.reg false [.V 4 (.asg (.c (.int .i64 0)))] [0,1] [0]) (.seq (.seq (.reg false [.V 5 (.asg (.c (.int .i64 0)))] [0,1,5] [0]) (.block 0 (.loop laws_markPotS_k1))) laws_markPotS_k2)) }
noncomputable def laws_markPotS_D : List (Nat × Callee) := [(40,laws_markText_c)]
def laws_markPotS_H : List (Nat × ET) := [(7,T_Pot),(12,T_Pot),(20,T_Pot),(27,T_Pot),(34,T_Pot),(41,T_Pot)]
noncomputable def laws_markPotS_c : Callee := mkCallee laws_markPotS_D laws_markPotS_H laws_markPotS_ir [.ios T_Pot,.d (.one (.int .i64))] [.d (.one (.int .i64))] [.ios T_Pot]
noncomputable def laws_markPotS (a0 : List T_Pot.ty) (a1 : Int) : Option (Int × List T_Pot.ty) := laws_markPotS_c.f (a0,a1,())
noncomputable def laws_markPotS_p0 (l0 : Nat) (v0n : Nat) (v1 : Int) (v5 : Int) (r0 : List T_Pot.ty) : Option (Int × List T_Pot.ty) :=
 goL laws_markPotS_D laws_markPotS_H (vleave laws_markPotS_ir [.ios T_Pot,.d (.one (.int .i64))] [.d (.one (.int .i64))] [.ios T_Pot] [l0]) [.c laws_markPotS_k0,.l laws_markPotS_k1,.e 0,.c laws_markPotS_k2]
  ⟨[(0,.view 0 0 v0n),(1,.int .i64 v1),(5,.int .i64 v5)],[(0,some (.sl T_Pot r0))]⟩
theorem laws_markPotS_eq (a0 : List T_Pot.ty) (a1 : Int) : laws_markPotS a0 a1 =
 laws_markPotS_p0 a0.length a0.length a1 0 a0 :=
 (mk_f _ _ _ _ _ _ _ 4000).trans (by kernel_rfl)
theorem laws_markPotS_p0_eq (l0 : Nat) (v0n : Nat) (v1 : Int) (v5 : Int) (r0 : List T_Pot.ty) : laws_markPotS_p0 l0 v0n v1 v5 r0 =
 if decide (v5 < (v0n : Int)) then
  (laws_markText v1).bind fun x1 =>
   if decide (0 ≤ v5) && decide (v5 < (v0n : Int)) then
    (r0[v5.toNat]?).bind fun x2 =>
     if decide (0 ≤ v5) && decide (v5 < (v0n : Int)) then
      ((r0.set v5.toNat (x1,x2.2.1,x2.2.2.1,x2.2.2.2.1,x2.2.2.2.2.1,()))[v5.toNat]?).bind fun x3 =>
       if decide (0 ≤ v5) && decide (v5 < (v0n : Int)) then
        (((r0.set v5.toNat (x1,x2.2.1,x2.2.2.1,x2.2.2.2.1,x2.2.2.2.2.1,())).set v5.toNat (x3.1,IntKind.i64.wrap (v1 + 1),x3.2.2.1,x3.2.2.2.1,x3.2.2.2.2.1,()))[v5.toNat]?).bind fun x4 =>
         if decide (0 ≤ v5) && decide (v5 < (v0n : Int)) then
          ((((r0.set v5.toNat (x1,x2.2.1,x2.2.2.1,x2.2.2.2.1,x2.2.2.2.2.1,())).set v5.toNat (x3.1,IntKind.i64.wrap (v1 + 1),x3.2.2.1,x3.2.2.2.1,x3.2.2.2.2.1,())).set v5.toNat (x4.1,x4.2.1,IntKind.i64.wrap ((IntKind.i64.wrap (v1 + 1)) + 1),x4.2.2.2.1,x4.2.2.2.2.1,()))[v5.toNat]?).bind fun x5 =>
           if decide (0 ≤ v5) && decide (v5 < (v0n : Int)) then
            (((((r0.set v5.toNat (x1,x2.2.1,x2.2.2.1,x2.2.2.2.1,x2.2.2.2.2.1,())).set v5.toNat (x3.1,IntKind.i64.wrap (v1 + 1),x3.2.2.1,x3.2.2.2.1,x3.2.2.2.2.1,())).set v5.toNat (x4.1,x4.2.1,IntKind.i64.wrap ((IntKind.i64.wrap (v1 + 1)) + 1),x4.2.2.2.1,x4.2.2.2.2.1,())).set v5.toNat (x5.1,x5.2.1,x5.2.2.1,IntKind.i64.wrap ((IntKind.i64.wrap ((IntKind.i64.wrap (v1 + 1)) + 1)) + 1),x5.2.2.2.2.1,()))[v5.toNat]?).bind fun x6 =>
             laws_markPotS_p0 l0 v0n (IntKind.i64.wrap ((IntKind.i64.wrap ((IntKind.i64.wrap ((IntKind.i64.wrap ((IntKind.i64.wrap (v1 + 1)) + 1)) + 1)) + 1)) + 1)) (IntKind.i64.wrap (v5 + 1)) (((((r0.set v5.toNat (x1,x2.2.1,x2.2.2.1,x2.2.2.2.1,x2.2.2.2.2.1,())).set v5.toNat (x3.1,IntKind.i64.wrap (v1 + 1),x3.2.2.1,x3.2.2.2.1,x3.2.2.2.2.1,())).set v5.toNat (x4.1,x4.2.1,IntKind.i64.wrap ((IntKind.i64.wrap (v1 + 1)) + 1),x4.2.2.2.1,x4.2.2.2.2.1,())).set v5.toNat (x5.1,x5.2.1,x5.2.2.1,IntKind.i64.wrap ((IntKind.i64.wrap ((IntKind.i64.wrap (v1 + 1)) + 1)) + 1),x5.2.2.2.2.1,())).set v5.toNat (x6.1,x6.2.1,x6.2.2.1,x6.2.2.2.1,IntKind.i64.wrap ((IntKind.i64.wrap ((IntKind.i64.wrap ((IntKind.i64.wrap (v1 + 1)) + 1)) + 1)) + 1),()))
           else
            none
         else
          none
       else
        none
     else
      none
   else
    none
 else
  if decide (r0.length = l0) then
   some (v1,r0)
  else
   none :=
 (goL_dn _ _ _ 4000 _ _).trans (by kernel_rfl)
def laws_markModeS_k0 : C :=
 .seq (.seq (.reg false [.V 6 (.mv (.t 5)),.V 7 (.mv (.t 0)),.V 8 (.len (.t 7)),.V 9 (.bin .lss (.t 6) (.t 8))] [0,1,5,9] [0]) (.cond (.t 9) .skip (.exit 0))) (.seq (.block 1 (.seq (.reg false [.V 12 (.mv (.t 0)),.V 13 (.mv (.t 5)),.V 14 (.mv (.t 1)),.V 15 (.call (.c (.fn 40 [])) [.t 14]),.V 16 (.ia 3 (.t 12) (.t 13)),.V 17 (.fa 0 (.t 16)),⟨none,true,.sto 1 (.t 17) (.t 15),none,false,[]⟩] [0,1,5] [0]) (.seq (.reg false [.V 18 (.mv (.t 1)),.V 19 (.bin .add (.t 18) (.c (.int .i64 1))),.V 1 (.asg (.t 19))] [0,1,5] [0]) (.seq (.reg false [.V 20 (.mv (.t 0)),.V 21 (.mv (.t 5)),.V 22 (.mv (.t 1)),.V 23 (.ia 3 (.t 20) (.t 21)),.V 24 (.fa 1 (.t 23)),⟨none,true,.sto 1 (.t 24) (.t 22),none,false,[]⟩] [0,1,5] [0]) (.seq (.reg false [.V 25 (.mv (.t 1)),.V 26 (.bin .add (.t 25) (.c (.int .i64 1))),.V 1 (.asg (.t 26))] [0,1,5] [0]) (.seq (.reg false [.V 27 (.mv (.t 0)),.V 28 (.mv (.t 5)),.V 29 (.mv (.t 1)),.V 30 (.ia 3 (.t 27) (.t 28)),.V 31 (.fa 2 (.t 30)),⟨none,true,.sto 1 (.t 31) (.t 29),none,false,[]⟩] [0,1,5] [0]) (.reg false [.V 32 (.mv (.t 1)),.V 33 (.bin .add (.t 32) (.c (.int .i64 1))),.V 1 (.asg (.t 33))] [0,1,5] [0]))))))) (.reg false [.V 10 (.mv (.t 5)),.V 11 (.bin .add (.t 10) (.c (.int .i64 1))),.V 5 (.asg (.t 11))] [0,1,5] [0]))
def laws_markModeS_k1 : C :=
 .norm [0,1,5] [0] laws_markModeS_k0
def laws_markModeS_k2 : C :=
 .seq (.reg false [.V 34 (.mv (.t 1)),.V 4 (.asg (.t 34))] [0,4] [0]) .ret
def laws_markModeS_ir : Fn := { np := 2,io := [true,false],res := [.t 4],own := [false],body :=
 (.seq (.reg false [.V 4 (.asg (.c (.int .i64 0)))] [0,1] [0]) (.seq (.seq (.reg false [.V 5 (.asg (.c (.int .i64 0)))] [0,1,5] [0]) (.block 0 (.loop laws_markModeS_k1))) laws_markModeS_k2)) }
noncomputable def laws_markModeS_D : List (Nat × Callee) := [(40,laws_markText_c)]
def laws_markModeS_H : List (Nat × ET) := [(7,T_Mode),(12,T_Mode),(20,T_Mode),(27,T_Mode)]
noncomputable def laws_markModeS_c : Callee := mkCallee laws_markModeS_D laws_markModeS_H laws_markModeS_ir [.ios T_Mode,.d (.one (.int .i64))] [.d (.one (.int .i64))] [.ios T_Mode]
noncomputable def laws_markModeS (a0 : List T_Mode.ty) (a1 : Int) : Option (Int × List T_Mode.ty) := laws_markModeS_c.f (a0,a1,())
noncomputable def laws_markModeS_p0 (l0 : Nat) (v0n : Nat) (v1 : Int) (v5 : Int) (r0 : List T_Mode.ty) : Option (Int × List T_Mode.ty) :=
 goL laws_markModeS_D laws_markModeS_H (vleave laws_markModeS_ir [.ios T_Mode,.d (.one (.int .i64))] [.d (.one (.int .i64))] [.ios T_Mode] [l0]) [.c laws_markModeS_k0,.l laws_markModeS_k1,.e 0,.c laws_markModeS_k2]
  ⟨[(0,.view 0 0 v0n),(1,.int .i64 v1),(5,.int .i64 v5)],[(0,some (.sl T_Mode r0))]⟩
theorem laws_markModeS_eq (a0 : List T_Mode.ty) (a1 : Int) : laws_markModeS a0 a1 =
 laws_markModeS_p0 a0.length a0.length a1 0 a0 :=
 (mk_f _ _ _ _ _ _ _ 4000).trans (by kernel_rfl)
theorem laws_markModeS_p0_eq (l0 : Nat) (v0n : Nat) (v1 : Int) (v5 : Int) (r0 : List T_Mode.ty) : laws_markModeS_p0 l0 v0n v1 v5 r0 =
 if decide (v5 < (v0n : Int)) then
  (laws_markText v1).bind fun x1 =>
   if decide (0 ≤ v5) && decide (v5 < (v0n : Int)) then
    (r0[v5.toNat]?).bind fun x2 =>
     if decide (0 ≤ v5) && decide (v5 < (v0n : Int)) then
      ((r0.set v5.toNat (x1,x2.2.1,x2.2.2.1,()))[v5.toNat]?).bind fun x3 =>
       if decide (0 ≤ v5) && decide (v5 < (v0n : Int)) then
        (((r0.set v5.toNat (x1,x2.2.1,x2.2.2.1,())).set v5.toNat (x3.1,IntKind.i64.wrap (v1 + 1),x3.2.2.1,()))[v5.toNat]?).bind fun x4 =>
         laws_markModeS_p0 l0 v0n (IntKind.i64.wrap ((IntKind.i64.wrap ((IntKind.i64.wrap (v1 + 1)) + 1)) + 1)) (IntKind.i64.wrap (v5 + 1)) (((r0.set v5.toNat (x1,x2.2.1,x2.2.2.1,())).set v5.toNat (x3.1,IntKind.i64.wrap (v1 + 1),x3.2.2.1,())).set v5.toNat (x4.1,x4.2.1,IntKind.i64.wrap ((IntKind.i64.wrap (v1 + 1)) + 1),()))
       else
        none
     else
      none
   else
    none
 else
  if decide (r0.length = l0) then
   some (v1,r0)
  else
   none :=
 (goL_dn _ _ _ 4000 _ _).trans (by kernel_rfl)
def laws_markWorkS_k0 : C :=
 .seq (.seq (.reg false [.V 6 (.mv (.t 5)),.V 7 (.mv (.t 0)),.V 8 (.len (.t 7)),.V 9 (.bin .lss (.t 6) (.t 8))] [0,1,5,9] [0]) (.cond (.t 9) .skip (.exit 0))) (.seq (.block 1 (.seq (.reg false [.V 12 (.mv (.t 0)),.V 13 (.mv (.t 5)),.V 14 (.mv (.t 1)),.V 15 (.call (.c (.fn 40 [])) [.t 14]),.V 16 (.ia 4 (.t 12) (.t 13)),.V 17 (.fa 0 (.t 16)),⟨none,true,.sto 1 (.t 17) (.t 15),none,false,[]⟩] [0,1,5] [0]) (.seq (.reg false [.V 18 (.mv (.t 1)),.V 19 (.bin .add (.t 18) (.c (.int .i64 1))),.V 1 (.asg (.t 19))] [0,1,5] [0]) (.seq (.reg false [.V 20 (.mv (.t 0)),.V 21 (.mv (.t 5)),.V 22 (.mv (.t 1)),.V 23 (.ia 4 (.t 20) (.t 21)),.V 24 (.fa 1 (.t 23)),⟨none,true,.sto 1 (.t 24) (.t 22),none,false,[]⟩] [0,1,5] [0]) (.seq (.reg false [.V 25 (.mv (.t 1)),.V 26 (.bin .add (.t 25) (.c (.int .i64 1))),.V 1 (.asg (.t 26))] [0,1,5] [0]) (.seq (.reg false [.V 27 (.mv (.t 0)),.V 28 (.mv (.t 5)),.V 29 (.mv (.t 1)),.V 30 (.ia 4 (.t 27) (.t 28)),.V 31 (.fa 2 (.t 30)),⟨none,true,.sto 1 (.t 31) (.t 29),none,false,[]⟩] [0,1,5] [0]) (.seq (.reg false [.V 32 (.mv (.t 1)),.V 33 (.bin .add (.t 32) (.c (.int .i64 1))),.V 1 (.asg (.t 33))] [0,1,5] [0]) (.seq (.reg false [.V 34 (.mv (.t 0)),.V 35 (.mv (.t 5)),.V 36 (.mv (.t 1)),.V 37 (.ia 4 (.t 34) (.t 35)),.V 38 (.fa 3 (.t 37)),⟨none,true,.sto 1 (.t 38) (.t 36),none,false,[]⟩] [0,1,5] [0]) (.reg false [.V 39 (.mv (.t 1)),.V 40 (.bin .add (.t 39) (.c (.int .i64 1))),.V 1 (.asg (.t 40))] [0,1,5] [0]))))))))) (.reg false [.V 10 (.mv (.t 5)),.V 11 (.bin .add (.t 10) (.c (.int .i64 1))),.V 5 (.asg (.t 11))] [0,1,5] [0]))
def laws_markWorkS_k1 : C :=
 .norm [0,1,5] [0] laws_markWorkS_k0
def laws_markWorkS_k2 : C :=
 .seq (.reg false [.V 41 (.mv (.t 1)),.V 4 (.asg (.t 41))] [0,4] [0]) .ret
def laws_markWorkS_ir : Fn := { np := 2,io := [true,false],res := [.t 4],own := [false],body :=
 (.seq (.reg false [.V 4 (.asg (.c (.int .i64 0)))] [0,1] [0]) (.seq (.seq (.reg false [.V 5 (.asg (.c (.int .i64 0)))] [0,1,5] [0]) (.block 0 (.loop laws_markWorkS_k1))) laws_markWorkS_k2)) }
noncomputable def laws_markWorkS_D : List (Nat × Callee) := [(40,laws_markText_c)]
def laws_markWorkS_H : List (Nat × ET) := [(7,T_Peg),(12,T_Peg),(20,T_Peg),(27,T_Peg),(34,T_Peg)]
noncomputable def laws_markWorkS_c : Callee := mkCallee laws_markWorkS_D laws_markWorkS_H laws_markWorkS_ir [.ios T_Peg,.d (.one (.int .i64))] [.d (.one (.int .i64))] [.ios T_Peg]
noncomputable def laws_markWorkS (a0 : List T_Peg.ty) (a1 : Int) : Option (Int × List T_Peg.ty) := laws_markWorkS_c.f (a0,a1,())
noncomputable def laws_markWorkS_p0 (l0 : Nat) (v0n : Nat) (v1 : Int) (v5 : Int) (r0 : List T_Peg.ty) : Option (Int × List T_Peg.ty) :=
 goL laws_markWorkS_D laws_markWorkS_H (vleave laws_markWorkS_ir [.ios T_Peg,.d (.one (.int .i64))] [.d (.one (.int .i64))] [.ios T_Peg] [l0]) [.c laws_markWorkS_k0,.l laws_markWorkS_k1,.e 0,.c laws_markWorkS_k2]
  ⟨[(0,.view 0 0 v0n),(1,.int .i64 v1),(5,.int .i64 v5)],[(0,some (.sl T_Peg r0))]⟩
theorem laws_markWorkS_eq (a0 : List T_Peg.ty) (a1 : Int) : laws_markWorkS a0 a1 =
 laws_markWorkS_p0 a0.length a0.length a1 0 a0 :=
 (mk_f _ _ _ _ _ _ _ 4000).trans (by kernel_rfl)
theorem laws_markWorkS_p0_eq (l0 : Nat) (v0n : Nat) (v1 : Int) (v5 : Int) (r0 : List T_Peg.ty) : laws_markWorkS_p0 l0 v0n v1 v5 r0 =
 if decide (v5 < (v0n : Int)) then
  (laws_markText v1).bind fun x1 =>
   if decide (0 ≤ v5) && decide (v5 < (v0n : Int)) then
    (r0[v5.toNat]?).bind fun x2 =>
     if decide (0 ≤ v5) && decide (v5 < (v0n : Int)) then
      ((r0.set v5.toNat (x1,x2.2.1,x2.2.2.1,x2.2.2.2.1,()))[v5.toNat]?).bind fun x3 =>
       if decide (0 ≤ v5) && decide (v5 < (v0n : Int)) then
        (((r0.set v5.toNat (x1,x2.2.1,x2.2.2.1,x2.2.2.2.1,())).set v5.toNat (x3.1,IntKind.i64.wrap (v1 + 1),x3.2.2.1,x3.2.2.2.1,()))[v5.toNat]?).bind fun x4 =>
         if decide (0 ≤ v5) && decide (v5 < (v0n : Int)) then
          ((((r0.set v5.toNat (x1,x2.2.1,x2.2.2.1,x2.2.2.2.1,())).set v5.toNat (x3.1,IntKind.i64.wrap (v1 + 1),x3.2.2.1,x3.2.2.2.1,())).set v5.toNat (x4.1,x4.2.1,IntKind.i64.wrap ((IntKind.i64.wrap (v1 + 1)) + 1),x4.2.2.2.1,()))[v5.toNat]?).bind fun x5 =>
           laws_markWorkS_p0 l0 v0n (IntKind.i64.wrap ((IntKind.i64.wrap ((IntKind.i64.wrap ((IntKind.i64.wrap (v1 + 1)) + 1)) + 1)) + 1)) (IntKind.i64.wrap (v5 + 1)) ((((r0.set v5.toNat (x1,x2.2.1,x2.2.2.1,x2.2.2.2.1,())).set v5.toNat (x3.1,IntKind.i64.wrap (v1 + 1),x3.2.2.1,x3.2.2.2.1,())).set v5.toNat (x4.1,x4.2.1,IntKind.i64.wrap ((IntKind.i64.wrap (v1 + 1)) + 1),x4.2.2.2.1,())).set v5.toNat (x5.1,x5.2.1,x5.2.2.1,IntKind.i64.wrap ((IntKind.i64.wrap ((IntKind.i64.wrap (v1 + 1)) + 1)) + 1),()))
         else
          none
       else
        none
     else
      none
   else
    none
 else
  if decide (r0.length = l0) then
   some (v1,r0)
  else
   none :=
 (goL_dn _ _ _ 4000 _ _).trans (by kernel_rfl)
def laws_markPaperS_k0 : C :=
 .seq (.seq (.reg false [.V 6 (.mv (.t 5)),.V 7 (.mv (.t 0)),.V 8 (.len (.t 7)),.V 9 (.bin .lss (.t 6) (.t 8))] [0,1,5,9] [0]) (.cond (.t 9) .skip (.exit 0))) (.seq (.block 1 (.seq (.reg false [.V 12 (.mv (.t 0)),.V 13 (.mv (.t 5)),.V 14 (.mv (.t 1)),.V 15 (.call (.c (.fn 40 [])) [.t 14]),.V 16 (.ia 5 (.t 12) (.t 13)),.V 17 (.fa 0 (.t 16)),⟨none,true,.sto 1 (.t 17) (.t 15),none,false,[]⟩] [0,1,5] [0]) (.seq (.reg false [.V 18 (.mv (.t 1)),.V 19 (.bin .add (.t 18) (.c (.int .i64 1))),.V 1 (.asg (.t 19))] [0,1,5] [0]) (.seq (.reg false [.V 20 (.mv (.t 0)),.V 21 (.mv (.t 5)),.V 22 (.mv (.t 1)),.V 23 (.call (.c (.fn 40 [])) [.t 22]),.V 24 (.ia 5 (.t 20) (.t 21)),.V 25 (.fa 1 (.t 24)),⟨none,true,.sto 1 (.t 25) (.t 23),none,false,[]⟩] [0,1,5] [0]) (.seq (.reg false [.V 26 (.mv (.t 1)),.V 27 (.bin .add (.t 26) (.c (.int .i64 1))),.V 1 (.asg (.t 27))] [0,1,5] [0]) (.seq (.reg false [.V 28 (.mv (.t 0)),.V 29 (.mv (.t 5)),.V 30 (.mv (.t 1)),.V 31 (.ia 5 (.t 28) (.t 29)),.V 32 (.fa 2 (.t 31)),⟨none,true,.sto 1 (.t 32) (.t 30),none,false,[]⟩] [0,1,5] [0]) (.seq (.reg false [.V 33 (.mv (.t 1)),.V 34 (.bin .add (.t 33) (.c (.int .i64 1))),.V 1 (.asg (.t 34))] [0,1,5] [0]) (.seq (.reg false [.V 35 (.mv (.t 0)),.V 36 (.mv (.t 5)),.V 37 (.mv (.t 1)),.V 38 (.ia 5 (.t 35) (.t 36)),.V 39 (.fa 3 (.t 38)),⟨none,true,.sto 1 (.t 39) (.t 37),none,false,[]⟩] [0,1,5] [0]) (.seq (.reg false [.V 40 (.mv (.t 1)),.V 41 (.bin .add (.t 40) (.c (.int .i64 1))),.V 1 (.asg (.t 41))] [0,1,5] [0]) (.seq (.reg false [.V 42 (.mv (.t 0)),.V 43 (.mv (.t 5)),.V 44 (.mv (.t 1)),.V 45 (.ia 5 (.t 42) (.t 43)),.V 46 (.fa 4 (.t 45)),⟨none,true,.sto 1 (.t 46) (.t 44),none,false,[]⟩] [0,1,5] [0]) (.reg false [.V 47 (.mv (.t 1)),.V 48 (.bin .add (.t 47) (.c (.int .i64 1))),.V 1 (.asg (.t 48))] [0,1,5] [0]))))))))))) (.reg false [.V 10 (.mv (.t 5)),.V 11 (.bin .add (.t 10) (.c (.int .i64 1))),.V 5 (.asg (.t 11))] [0,1,5] [0]))
def laws_markPaperS_k1 : C :=
 .norm [0,1,5] [0] laws_markPaperS_k0
def laws_markPaperS_k2 : C :=
 .seq (.reg false [.V 49 (.mv (.t 1)),.V 4 (.asg (.t 49))] [0,4] [0]) .ret
def laws_markPaperS_ir : Fn := { np := 2,io := [true,false],res := [.t 4],own := [false],body :=
 (.seq (.reg false [.V 4 (.asg (.c (.int .i64 0)))] [0,1] [0]) (.seq (.seq (.reg false [.V 5 (.asg (.c (.int .i64 0)))] [0,1,5] [0]) (.block 0 (.loop laws_markPaperS_k1))) laws_markPaperS_k2)) }
noncomputable def laws_markPaperS_D : List (Nat × Callee) := [(40,laws_markText_c)]
def laws_markPaperS_H : List (Nat × ET) := [(7,T_Paper),(12,T_Paper),(20,T_Paper),(28,T_Paper),(35,T_Paper),(42,T_Paper)]
noncomputable def laws_markPaperS_c : Callee := mkCallee laws_markPaperS_D laws_markPaperS_H laws_markPaperS_ir [.ios T_Paper,.d (.one (.int .i64))] [.d (.one (.int .i64))] [.ios T_Paper]
noncomputable def laws_markPaperS (a0 : List T_Paper.ty) (a1 : Int) : Option (Int × List T_Paper.ty) := laws_markPaperS_c.f (a0,a1,())
noncomputable def laws_markPaperS_p0 (l0 : Nat) (v0n : Nat) (v1 : Int) (v5 : Int) (r0 : List T_Paper.ty) : Option (Int × List T_Paper.ty) :=
 goL laws_markPaperS_D laws_markPaperS_H (vleave laws_markPaperS_ir [.ios T_Paper,.d (.one (.int .i64))] [.d (.one (.int .i64))] [.ios T_Paper] [l0]) [.c laws_markPaperS_k0,.l laws_markPaperS_k1,.e 0,.c laws_markPaperS_k2]
  ⟨[(0,.view 0 0 v0n),(1,.int .i64 v1),(5,.int .i64 v5)],[(0,some (.sl T_Paper r0))]⟩
theorem laws_markPaperS_eq (a0 : List T_Paper.ty) (a1 : Int) : laws_markPaperS a0 a1 =
 laws_markPaperS_p0 a0.length a0.length a1 0 a0 :=
 (mk_f _ _ _ _ _ _ _ 4000).trans (by kernel_rfl)
theorem laws_markPaperS_p0_eq (l0 : Nat) (v0n : Nat) (v1 : Int) (v5 : Int) (r0 : List T_Paper.ty) : laws_markPaperS_p0 l0 v0n v1 v5 r0 =
 if decide (v5 < (v0n : Int)) then
  (laws_markText v1).bind fun x1 =>
   if decide (0 ≤ v5) && decide (v5 < (v0n : Int)) then
    (r0[v5.toNat]?).bind fun x2 =>
     (laws_markText (IntKind.i64.wrap (v1 + 1))).bind fun x3 =>
      if decide (0 ≤ v5) && decide (v5 < (v0n : Int)) then
       ((r0.set v5.toNat (x1,x2.2.1,x2.2.2.1,x2.2.2.2.1,x2.2.2.2.2.1,()))[v5.toNat]?).bind fun x4 =>
        if decide (0 ≤ v5) && decide (v5 < (v0n : Int)) then
         (((r0.set v5.toNat (x1,x2.2.1,x2.2.2.1,x2.2.2.2.1,x2.2.2.2.2.1,())).set v5.toNat (x4.1,x3,x4.2.2.1,x4.2.2.2.1,x4.2.2.2.2.1,()))[v5.toNat]?).bind fun x5 =>
          if decide (0 ≤ v5) && decide (v5 < (v0n : Int)) then
           ((((r0.set v5.toNat (x1,x2.2.1,x2.2.2.1,x2.2.2.2.1,x2.2.2.2.2.1,())).set v5.toNat (x4.1,x3,x4.2.2.1,x4.2.2.2.1,x4.2.2.2.2.1,())).set v5.toNat (x5.1,x5.2.1,IntKind.i64.wrap ((IntKind.i64.wrap (v1 + 1)) + 1),x5.2.2.2.1,x5.2.2.2.2.1,()))[v5.toNat]?).bind fun x6 =>
            if decide (0 ≤ v5) && decide (v5 < (v0n : Int)) then
             (((((r0.set v5.toNat (x1,x2.2.1,x2.2.2.1,x2.2.2.2.1,x2.2.2.2.2.1,())).set v5.toNat (x4.1,x3,x4.2.2.1,x4.2.2.2.1,x4.2.2.2.2.1,())).set v5.toNat (x5.1,x5.2.1,IntKind.i64.wrap ((IntKind.i64.wrap (v1 + 1)) + 1),x5.2.2.2.1,x5.2.2.2.2.1,())).set v5.toNat (x6.1,x6.2.1,x6.2.2.1,IntKind.i64.wrap ((IntKind.i64.wrap ((IntKind.i64.wrap (v1 + 1)) + 1)) + 1),x6.2.2.2.2.1,()))[v5.toNat]?).bind fun x7 =>
              laws_markPaperS_p0 l0 v0n (IntKind.i64.wrap ((IntKind.i64.wrap ((IntKind.i64.wrap ((IntKind.i64.wrap ((IntKind.i64.wrap (v1 + 1)) + 1)) + 1)) + 1)) + 1)) (IntKind.i64.wrap (v5 + 1)) (((((r0.set v5.toNat (x1,x2.2.1,x2.2.2.1,x2.2.2.2.1,x2.2.2.2.2.1,())).set v5.toNat (x4.1,x3,x4.2.2.1,x4.2.2.2.1,x4.2.2.2.2.1,())).set v5.toNat (x5.1,x5.2.1,IntKind.i64.wrap ((IntKind.i64.wrap (v1 + 1)) + 1),x5.2.2.2.1,x5.2.2.2.2.1,())).set v5.toNat (x6.1,x6.2.1,x6.2.2.1,IntKind.i64.wrap ((IntKind.i64.wrap ((IntKind.i64.wrap (v1 + 1)) + 1)) + 1),x6.2.2.2.2.1,())).set v5.toNat (x7.1,x7.2.1,x7.2.2.1,x7.2.2.2.1,IntKind.i64.wrap ((IntKind.i64.wrap ((IntKind.i64.wrap ((IntKind.i64.wrap (v1 + 1)) + 1)) + 1)) + 1),()))
            else
             none
          else
           none
        else
         none
      else
       none
   else
    none
 else
  if decide (r0.length = l0) then
   some (v1,r0)
  else
   none :=
 (goL_dn _ _ _ 4000 _ _).trans (by kernel_rfl)
def laws_markInt64S_k0 : C :=
 .seq (.seq (.reg false [.V 6 (.mv (.t 5)),.V 7 (.mv (.t 0)),.V 8 (.len (.t 7)),.V 9 (.bin .lss (.t 6) (.t 8))] [0,1,5,9] [0]) (.cond (.t 9) .skip (.exit 0))) (.seq (.block 1 (.seq (.reg false [.V 12 (.mv (.t 0)),.V 13 (.mv (.t 5)),.V 14 (.mv (.t 1)),.V 15 (.ia 1 (.t 12) (.t 13)),⟨none,true,.sto 1 (.t 15) (.t 14),none,false,[]⟩] [0,1,5] [0]) (.reg false [.V 16 (.mv (.t 1)),.V 17 (.bin .add (.t 16) (.c (.int .i64 1))),.V 1 (.asg (.t 17))] [0,1,5] [0]))) (.reg false [.V 10 (.mv (.t 5)),.V 11 (.bin .add (.t 10) (.c (.int .i64 1))),.V 5 (.asg (.t 11))] [0,1,5] [0]))
def laws_markInt64S_k1 : C :=
 .norm [0,1,5] [0] laws_markInt64S_k0
def laws_markInt64S_k2 : C :=
 .seq (.reg false [.V 18 (.mv (.t 1)),.V 4 (.asg (.t 18))] [0,4] [0]) .ret
def laws_markInt64S_ir : Fn := { np := 2,io := [true,false],res := [.t 4],own := [false],body :=
 (.seq (.reg false [.V 4 (.asg (.c (.int .i64 0)))] [0,1] [0]) (.seq (.seq (.reg false [.V 5 (.asg (.c (.int .i64 0)))] [0,1,5] [0]) (.block 0 (.loop laws_markInt64S_k1))) laws_markInt64S_k2)) }
noncomputable def laws_markInt64S_D : List (Nat × Callee) := []
def laws_markInt64S_H : List (Nat × ET) := [(7,(.one (.int .i64))),(12,(.one (.int .i64)))]
noncomputable def laws_markInt64S_c : Callee := mkCallee laws_markInt64S_D laws_markInt64S_H laws_markInt64S_ir [.ios (.one (.int .i64)),.d (.one (.int .i64))] [.d (.one (.int .i64))] [.ios (.one (.int .i64))]
noncomputable def laws_markInt64S (a0 : List Int) (a1 : Int) : Option (Int × List Int) := laws_markInt64S_c.f (a0,a1,())
noncomputable def laws_markInt64S_p0 (l0 : Nat) (v0n : Nat) (v1 : Int) (v5 : Int) (r0 : List Int) : Option (Int × List Int) :=
 goL laws_markInt64S_D laws_markInt64S_H (vleave laws_markInt64S_ir [.ios (.one (.int .i64)),.d (.one (.int .i64))] [.d (.one (.int .i64))] [.ios (.one (.int .i64))] [l0]) [.c laws_markInt64S_k0,.l laws_markInt64S_k1,.e 0,.c laws_markInt64S_k2]
  ⟨[(0,.view 0 0 v0n),(1,.int .i64 v1),(5,.int .i64 v5)],[(0,some (.sl (.one (.int .i64)) r0))]⟩
theorem laws_markInt64S_eq (a0 : List Int) (a1 : Int) : laws_markInt64S a0 a1 =
 laws_markInt64S_p0 a0.length a0.length a1 0 a0 :=
 (mk_f _ _ _ _ _ _ _ 4000).trans (by kernel_rfl)
theorem laws_markInt64S_p0_eq (l0 : Nat) (v0n : Nat) (v1 : Int) (v5 : Int) (r0 : List Int) : laws_markInt64S_p0 l0 v0n v1 v5 r0 =
 if decide (v5 < (v0n : Int)) then
  if decide (0 ≤ v5) && decide (v5 < (v0n : Int)) then
   (r0[v5.toNat]?).bind fun x1 =>
    laws_markInt64S_p0 l0 v0n (IntKind.i64.wrap (v1 + 1)) (IntKind.i64.wrap (v5 + 1)) (r0.set v5.toNat v1)
  else
   none
 else
  if decide (r0.length = l0) then
   some (v1,r0)
  else
   none :=
 (goL_dn _ _ _ 4000 _ _).trans (by kernel_rfl)
def laws_markStringS_k0 : C :=
 .seq (.seq (.reg false [.V 6 (.mv (.t 5)),.V 7 (.mv (.t 0)),.V 8 (.len (.t 7)),.V 9 (.bin .lss (.t 6) (.t 8))] [0,1,5,9] [0]) (.cond (.t 9) .skip (.exit 0))) (.seq (.block 1 (.seq (.reg false [.V 12 (.mv (.t 0)),.V 13 (.mv (.t 5)),.V 14 (.mv (.t 1)),.V 15 (.call (.c (.fn 40 [])) [.t 14]),.V 16 (.ia 1 (.t 12) (.t 13)),⟨none,true,.sto 1 (.t 16) (.t 15),none,false,[]⟩] [0,1,5] [0]) (.reg false [.V 17 (.mv (.t 1)),.V 18 (.bin .add (.t 17) (.c (.int .i64 1))),.V 1 (.asg (.t 18))] [0,1,5] [0]))) (.reg false [.V 10 (.mv (.t 5)),.V 11 (.bin .add (.t 10) (.c (.int .i64 1))),.V 5 (.asg (.t 11))] [0,1,5] [0]))
def laws_markStringS_k1 : C :=
 .norm [0,1,5] [0] laws_markStringS_k0
def laws_markStringS_k2 : C :=
 .seq (.reg false [.V 19 (.mv (.t 1)),.V 4 (.asg (.t 19))] [0,4] [0]) .ret
def laws_markStringS_ir : Fn := { np := 2,io := [true,false],res := [.t 4],own := [false],body :=
 (.seq (.reg false [.V 4 (.asg (.c (.int .i64 0)))] [0,1] [0]) (.seq (.seq (.reg false [.V 5 (.asg (.c (.int .i64 0)))] [0,1,5] [0]) (.block 0 (.loop laws_markStringS_k1))) laws_markStringS_k2)) }
noncomputable def laws_markStringS_D : List (Nat × Callee) := [(40,laws_markText_c)]
def laws_markStringS_H : List (Nat × ET) := [(7,(.one .str)),(12,(.one .str))]
noncomputable def laws_markStringS_c : Callee := mkCallee laws_markStringS_D laws_markStringS_H laws_markStringS_ir [.ios (.one .str),.d (.one (.int .i64))] [.d (.one (.int .i64))] [.ios (.one .str)]
noncomputable def laws_markStringS (a0 : List (List UInt8)) (a1 : Int) : Option (Int × List (List UInt8)) := laws_markStringS_c.f (a0,a1,())
noncomputable def laws_markStringS_p0 (l0 : Nat) (v0n : Nat) (v1 : Int) (v5 : Int) (r0 : List (List UInt8)) : Option (Int × List (List UInt8)) :=
 goL laws_markStringS_D laws_markStringS_H (vleave laws_markStringS_ir [.ios (.one .str),.d (.one (.int .i64))] [.d (.one (.int .i64))] [.ios (.one .str)] [l0]) [.c laws_markStringS_k0,.l laws_markStringS_k1,.e 0,.c laws_markStringS_k2]
  ⟨[(0,.view 0 0 v0n),(1,.int .i64 v1),(5,.int .i64 v5)],[(0,some (.sl (.one .str) r0))]⟩
theorem laws_markStringS_eq (a0 : List (List UInt8)) (a1 : Int) : laws_markStringS a0 a1 =
 laws_markStringS_p0 a0.length a0.length a1 0 a0 :=
 (mk_f _ _ _ _ _ _ _ 4000).trans (by kernel_rfl)
theorem laws_markStringS_p0_eq (l0 : Nat) (v0n : Nat) (v1 : Int) (v5 : Int) (r0 : List (List UInt8)) : laws_markStringS_p0 l0 v0n v1 v5 r0 =
 if decide (v5 < (v0n : Int)) then
  (laws_markText v1).bind fun x1 =>
   if decide (0 ≤ v5) && decide (v5 < (v0n : Int)) then
    (r0[v5.toNat]?).bind fun x2 =>
     laws_markStringS_p0 l0 v0n (IntKind.i64.wrap (v1 + 1)) (IntKind.i64.wrap (v5 + 1)) (r0.set v5.toNat x1)
   else
    none
 else
  if decide (r0.length = l0) then
   some (v1,r0)
  else
   none :=
 (goL_dn _ _ _ 4000 _ _).trans (by kernel_rfl)
def laws_heldStringS_k0 : C :=
 .seq (.seq (.reg false [.V 6 (.mv (.t 5)),.V 7 (.mv (.t 0)),.V 8 (.len (.t 7)),.V 9 (.bin .lss (.t 6) (.t 8))] [0,1,5,9] []) (.cond (.t 9) .skip (.exit 0))) (.seq (.block 1 (.seq (.seq (.reg true [.V 12 (.mv (.t 0)),.V 13 (.mv (.t 5)),.V 14 (.ia 1 (.t 12) (.t 13)),.V 15 (.ld none (.t 14)),.V 16 (.mv (.t 1)),.V 17 (.call (.c (.fn 40 [])) [.t 16]),.V 18 (.bin .neq (.t 15) (.t 17))] [0,1,5,18] []) (.cond (.t 18) (.seq (.reg false [.V 4 (.asg (.c (.int .i64 (-1))))] [4] []) .ret) .skip)) (.reg false [.V 19 (.mv (.t 1)),.V 20 (.bin .add (.t 19) (.c (.int .i64 1))),.V 1 (.asg (.t 20))] [0,1,5] []))) (.reg false [.V 10 (.mv (.t 5)),.V 11 (.bin .add (.t 10) (.c (.int .i64 1))),.V 5 (.asg (.t 11))] [0,1,5] []))
def laws_heldStringS_k1 : C :=
 .norm [0,1,5] [] laws_heldStringS_k0
def laws_heldStringS_k2 : C :=
 .seq (.reg false [.V 21 (.mv (.t 1)),.V 4 (.asg (.t 21))] [4] []) .ret
def laws_heldStringS_ir : Fn := { np := 2,io := [],res := [.t 4],own := [false],body :=
 (.seq (.reg false [.V 4 (.asg (.c (.int .i64 0)))] [0,1] []) (.seq (.seq (.reg false [.V 5 (.asg (.c (.int .i64 0)))] [0,1,5] []) (.block 0 (.loop laws_heldStringS_k1))) laws_heldStringS_k2)) }
noncomputable def laws_heldStringS_D : List (Nat × Callee) := [(40,laws_markText_c)]
def laws_heldStringS_H : List (Nat × ET) := [(7,(.one .str)),(12,(.one .str))]
noncomputable def laws_heldStringS_c : Callee := mkCallee laws_heldStringS_D laws_heldStringS_H laws_heldStringS_ir [.d (.one (.sl (.one .str))),.d (.one (.int .i64))] [.d (.one (.int .i64))] []
noncomputable def laws_heldStringS (a0 : List (List UInt8)) (a1 : Int) : Option (Int) := laws_heldStringS_c.f (a0,a1,())
noncomputable def laws_heldStringS_p0  (v0 : List (List UInt8)) (v1 : Int) (v5 : Int) : Option (Int) :=
 goL laws_heldStringS_D laws_heldStringS_H (vleave laws_heldStringS_ir [.d (.one (.sl (.one .str))),.d (.one (.int .i64))] [.d (.one (.int .i64))] [] []) [.c laws_heldStringS_k0,.l laws_heldStringS_k1,.e 0,.c laws_heldStringS_k2]
  ⟨[(0,.sl (.one .str) v0),(1,.int .i64 v1),(5,.int .i64 v5)],[]⟩
theorem laws_heldStringS_eq (a0 : List (List UInt8)) (a1 : Int) : laws_heldStringS a0 a1 =
 laws_heldStringS_p0 a0 a1 0 :=
 (mk_f _ _ _ _ _ _ _ 4000).trans (by kernel_rfl)
theorem laws_heldStringS_p0_eq  (v0 : List (List UInt8)) (v1 : Int) (v5 : Int) : laws_heldStringS_p0 v0 v1 v5 =
 if decide (v5 < (v0.length : Int)) then
  if decide (0 ≤ v5) then
   (v0[v5.toNat]?).bind fun x1 =>
    (laws_markText v1).bind fun x2 =>
     if (!(x1 == x2)) then
      some (-1)
     else
      laws_heldStringS_p0 v0 (IntKind.i64.wrap (v1 + 1)) (IntKind.i64.wrap (v5 + 1))
  else
   none
 else
  some v1 :=
 (goL_dn _ _ _ 4000 _ _).trans (by kernel_rfl)
noncomputable def laws_FnExactDeskReport_F : DeskF := { sz := laws_szDesk,sp := spec_DeskReport,im := impl_DeskReport,ep := laws_eqStringS,es := laws_eqDesk,tN := laws_toNeck,t0 := laws_toStackS,t1 := laws_toRibS,t7 := laws_toPegS,t8 := laws_toPotS,t9 := laws_toModeS,t10 := laws_toWorkS,t11 := laws_toPaperS,tI := laws_toInt64S,k0 := laws_markStackS,k1 := laws_markRibS,k7 := laws_markPegS,k8 := laws_markPotS,k9 := laws_markModeS,k10 := laws_markWorkS,k11 := laws_markPaperS,kI := laws_markInt64S,mp := laws_markStringS,hp := laws_heldStringS }
noncomputable def laws_FnExactDeskReport_c : Callee := lawC deskE laws_FnExactDeskReport_F.Cond
end Go.Ab.P
