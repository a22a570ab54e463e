/- Functions of the program: abstract forms, and what their runs give. Conditions: none. -/
import Derived.Test.YtkgfikfdiobnoaaGreatDoorLJ
set_option maxRecDepth 100000
set_option linter.unusedVariables false
namespace Go.Ab.P
open Go.Ab
@[reducible] def T_Peg : ET := .agg (.cons .str (.cons (.int .i64) (.cons (.int .i64) (.cons (.int .i64) .nil))))
@[reducible] def Zaa : ET := .agg (.cons (.sl (.one (.int .u8))) (.cons (.int .i64) (.cons (.int .u64) .nil)))
def Zs4 : Fn := { np := 1,io := [],res := [.t 2],own := [false],body :=
 (.seq (.reg false [.V 2 (.asg (.c (.bool false)))] [0] []) (.seq (.reg false [.V 3 (.mv (.t 0)),.V 4 (.len (.t 3)),.V 5 (.bin .gtr (.t 4) (.c (.int .i64 1048576))),.V 2 (.asg (.t 5))] [2] []) .ret)) }
noncomputable def Zmo : List (Nat × Callee) := []
def Zuk : List (Nat × ET) := [(3,(.one (.int .u8)))]
noncomputable def Zg4 : Callee := Zab Zmo Zuk Zs4 [.d (.one (.sl (.one (.int .u8))))] [.d (.one .bool)] []
noncomputable def Zka (a0 : List Int) : Option (Bool) := Zg4.f (a0,())
theorem Zle (a0 : List Int) : Zka a0 =
 some (decide ((a0.length : Int) > 1048576)) :=
 (mk_f _ _ _ _ _ _ _ 4000).trans (by kernel_rfl)
def Zsm : Fn := { np := 1,io := [],res := [.t 2],own := [true],body :=
 (.seq (.reg false [.V 2 (.asg (.c (.cst (.pointer none))))] [0] []) (.seq (.reg false [.V 3 (.mv (.t 0)),.V 4 (.build [.nils 1,.int .i64 0,.int .u64 0] [(0,1,.t 3)]),.W 5 (.box 3 (.t 4)),.V 2 (.asg (.t 5))] [2] [5,6000]) .ret)) }
noncomputable def Zl9 : List (Nat × Callee) := []
def Zui : List (Nat × ET) := [(3,(.one (.int .u8)))]
noncomputable def Zdz : Callee := Zab Zl9 Zui Zsm [.d (.one (.sl (.one (.int .u8))))] [.box Zaa] []
noncomputable def Zj4 (a0 : List Int) : Option (Zaa.ty) := Zdz.f (a0,())
theorem Zkv (a0 : List Int) : Zj4 a0 =
 some (a0,0,0,()) :=
 (mk_f _ _ _ _ _ _ _ 4000).trans (by kernel_rfl)
def Zgh : C :=
 .seq (.reg false [.V 25 (.mv (.t 0)),.V 26 (.nilck (.t 25)),.V 27 (.fa 1 (.t 26)),.V 28 (.ld none (.t 27)),.V 29 (.bin .add (.t 28) (.c (.int .i64 1))),.V 30 (.nilck (.t 25)),.V 31 (.fa 1 (.t 30)),⟨none,true,.sto 1 (.t 31) (.t 29),none,false,[]⟩] [0,3] [0,1000]) (.seq (.reg false [.V 32 (.mv (.t 0)),.V 33 (.mv (.t 0)),.V 34 (.nilck (.t 33)),.V 35 (.fa 2 (.t 34)),.V 36 (.ld none (.t 35)),.V 37 (.bin .mul (.t 36) (.c (.int .u64 6364136223846793005))),.V 38 (.mv (.t 3)),.V 39 (.conv (.int .u64) (.t 38)),.V 40 (.bin .add (.t 37) (.t 39)),.V 41 (.bin .add (.t 40) (.c (.int .u64 1442695040888963407))),.V 42 (.nilck (.t 32)),.V 43 (.fa 2 (.t 42)),⟨none,true,.sto 1 (.t 43) (.t 41),none,false,[]⟩] [0,3] [0,1000]) (.seq (.seq (.reg true [.V 44 (.mv (.t 0)),.V 45 (.nilck (.t 44)),.V 46 (.fa 1 (.t 45)),.V 47 (.ld none (.t 46)),.V 48 (.mv (.t 0)),.V 49 (.nilck (.t 48)),.V 50 (.fa 0 (.t 49)),.V 51 (.ld none (.t 50)),.V 52 (.len (.t 51)),.V 53 (.bin .leq (.t 47) (.t 52))] [0,3,53] [0,1000]) (.cond (.t 53) (.seq (.reg false [.V 54 (.mv (.t 3)),.V 2 (.asg (.t 54))] [0,2] [0,1000]) .ret) .skip)) (.seq (.reg false [.V 55 (.mv (.t 0)),.V 56 (.nilck (.t 55)),.V 57 (.fa 2 (.t 56)),.V 58 (.ld none (.t 57)),.V 59 (.bin .shr (.t 58) (.c (.int .u64 40))),.V 60 (.bin .and (.t 59) (.c (.int .u64 255))),.V 61 (.conv (.int .i64) (.t 60)),.V 2 (.asg (.t 61))] [0,2] [0,1000]) .ret)))
def Zgc : Fn := { np := 1,io := [true],res := [.t 2],own := [false],body :=
 (.seq (.reg false [.V 2 (.asg (.c (.int .i64 0)))] [0] [0,1000]) (.seq (.reg false [.V 3 (.asg (.c (.int .i64 0)))] [0,3] [0,1000]) (.seq (.seq (.reg true [.V 4 (.mv (.t 0)),.V 5 (.nilck (.t 4)),.V 6 (.fa 1 (.t 5)),.V 7 (.ld none (.t 6)),.V 8 (.mv (.t 0)),.V 9 (.nilck (.t 8)),.V 10 (.fa 0 (.t 9)),.V 11 (.ld none (.t 10)),.V 12 (.len (.t 11)),.V 13 (.bin .lss (.t 7) (.t 12))] [0,3,13] [0,1000]) (.cond (.t 13) (.reg true [.V 14 (.mv (.t 0)),.V 15 (.nilck (.t 14)),.V 16 (.fa 0 (.t 15)),.V 17 (.ld none (.t 16)),.V 18 (.mv (.t 0)),.V 19 (.nilck (.t 18)),.V 20 (.fa 1 (.t 19)),.V 21 (.ld none (.t 20)),.V 22 (.ia 1 (.t 17) (.t 21)),.V 23 (.ld none (.t 22)),.V 24 (.conv (.int .i64) (.t 23)),.V 3 (.asg (.t 24))] [0,3] [0,1000]) .skip)) (.norm [0,3] [0,1000] Zgh)))) }
noncomputable def Zdm : List (Nat × Callee) := []
def Zh7 : List (Nat × ET) := [(11,(.one (.int .u8))),(17,(.one (.int .u8))),(51,(.one (.int .u8)))]
noncomputable def Zdf : Callee := Zab Zdm Zh7 Zgc [.box Zaa] [.d (.one (.int .i64))] [.box Zaa]
noncomputable def Zbn (a0 : Zaa.ty) : Option (Int × Zaa.ty) := Zdf.f (a0,())
noncomputable def Zbp  (v3 : Int) (r0_0 : List Int) (r0_1 : Int) (r0_2 : Int) : Option (Int × Zaa.ty) :=
 goL Zdm Zh7 (vleave Zgc [.box Zaa] [.d (.one (.int .i64))] [.box Zaa] []) [.c Zgh]
  ⟨[(0,.loc 0 0 0),(3,.int .i64 v3)],[(0,some (.var 3 (.agg [.sl (.one (.int .u8)) r0_0,.int .i64 r0_1,.int .u64 r0_2]))),(1000,none)]⟩
theorem Zog (a0 : Zaa.ty) : Zbn a0 =
 if decide (a0.2.1 < (a0.1.length : Int)) then
  if decide (0 ≤ a0.2.1) then
   (a0.1[a0.2.1.toNat]?).bind fun x1 =>
    Zbp (IntKind.i64.wrap x1) a0.1 a0.2.1 a0.2.2.1
  else
   none
 else
  Zbp 0 a0.1 a0.2.1 a0.2.2.1 :=
 (mk_f _ _ _ _ _ _ _ 4000).trans (by kernel_rfl)
theorem Zl1  (v3 : Int) (r0_0 : List Int) (r0_1 : Int) (r0_2 : Int) : Zbp v3 r0_0 r0_1 r0_2 =
 if decide (IntKind.i64.wrap (r0_1 + 1) ≤ (r0_0.length : Int)) then
  some (v3,(r0_0,IntKind.i64.wrap (r0_1 + 1),IntKind.u64.wrap ((IntKind.u64.wrap ((IntKind.u64.wrap (r0_2 * 6364136223846793005)) + (IntKind.u64.wrap v3))) + 1442695040888963407),()))
 else
  some (IntKind.i64.wrap (IntKind.u64.wrap ((BitVec.ofInt IntKind.u64.bits (Int.fdiv (IntKind.u64.wrap ((IntKind.u64.wrap ((IntKind.u64.wrap (r0_2 * 6364136223846793005)) + (IntKind.u64.wrap v3))) + 1442695040888963407)) (2 ^ (min (40 : Int).toNat IntKind.u64.bits))) &&& BitVec.ofInt IntKind.u64.bits 255).toNat : Int)),(r0_0,IntKind.i64.wrap (r0_1 + 1),IntKind.u64.wrap ((IntKind.u64.wrap ((IntKind.u64.wrap (r0_2 * 6364136223846793005)) + (IntKind.u64.wrap v3))) + 1442695040888963407),())) :=
 (goL_dn _ _ _ 4000 _ _).trans (by kernel_rfl)
def Zol : Fn := { np := 2,io := [true,false],res := [.t 4],own := [false],body :=
 (.seq (.reg false [.V 4 (.asg (.c (.int .i64 0)))] [0,1] [0,1000]) (.seq (.seq (.reg false [.V 6 (.mv (.t 1)),.V 7 (.bin .leq (.t 6) (.c (.int .i64 1)))] [0,1,7] [0,1000]) (.cond (.t 7) (.seq (.reg false [.V 4 (.asg (.c (.int .i64 0)))] [0,4] [0,1000]) .ret) .skip)) (.seq (.reg false [.V 8 (.mv (.t 0)),.W 9 (.call (.c (.fn 847 [])) [.t 8]),.V 5 (.asg (.t 9))] [0,1,5] [0,1000]) (.seq (.seq (.reg false [.V 10 (.mv (.t 1)),.V 11 (.bin .gtr (.t 10) (.c (.int .i64 200)))] [0,1,5,11] [0,1000]) (.cond (.t 11) (.reg false [.V 12 (.mv (.t 5)),.V 13 (.bin .mul (.t 12) (.c (.int .i64 256))),.V 14 (.mv (.t 0)),.W 15 (.call (.c (.fn 847 [])) [.t 14]),.V 16 (.bin .add (.t 13) (.t 15)),.V 5 (.asg (.t 16))] [0,1,5] [0,1000]) .skip)) (.seq (.reg false [.V 17 (.mv (.t 5)),.V 18 (.mv (.t 1)),.V 19 (.bin .rem (.t 17) (.t 18)),.V 4 (.asg (.t 19))] [0,4] [0,1000]) .ret))))) }
noncomputable def Zh0 : List (Nat × Callee) := [(847,Zdf)]
def Zo8 : List (Nat × ET) := []
noncomputable def Zao : Callee := Zab Zh0 Zo8 Zol [.box Zaa,.d (.one (.int .i64))] [.d (.one (.int .i64))] [.box Zaa]
noncomputable def Zam (a0 : Zaa.ty) (a1 : Int) : Option (Int × Zaa.ty) := Zao.f (a0,a1,())
theorem Zom (a0 : Zaa.ty) (a1 : Int) : Zam a0 a1 =
 if decide (a1 ≤ 1) then
  some (0,a0)
 else
  (Zbn a0).bind fun x1 =>
   if decide (a1 > 200) then
    (Zbn (x1.2.1,x1.2.2.1,x1.2.2.2.1,())).bind fun x2 =>
     if decide (a1 = 0) then
      none
     else
      some ((IntKind.i64.wrap ((IntKind.i64.wrap (x1.1 * 256)) + x2.1)).tmod a1,(x2.2.1,x2.2.2.1,x2.2.2.2.1,()))
   else
    if decide (a1 = 0) then
     none
    else
     some (x1.1.tmod a1,(x1.2.1,x1.2.2.1,x1.2.2.2.1,())) :=
 (mk_f _ _ _ _ _ _ _ 4000).trans (by kernel_rfl)
def Znb : Fn := { np := 2,io := [true,false],res := [.t 4],own := [false],body :=
 (.seq (.reg false [.V 4 (.asg (.c (.int .i64 0)))] [0,1] [0,1000]) (.seq (.reg false [.V 5 (.mv (.t 1)),.V 6 (.mv (.t 0)),.V 7 (.mv (.t 1)),.V 8 (.len (.t 7)),.W 9 (.call (.c (.fn 463 [])) [.t 6,.t 8]),.V 10 (.ia 1 (.t 5) (.t 9)),.V 11 (.ld none (.t 10)),.V 4 (.asg (.t 11))] [0,4] [0,1000]) .ret)) }
noncomputable def Zgj : List (Nat × Callee) := [(463,Zao)]
def Zoi : List (Nat × ET) := [(5,(.one (.int .i64))),(7,(.one (.int .i64)))]
noncomputable def Zas : Callee := Zab Zgj Zoi Znb [.box Zaa,.d (.one (.sl (.one (.int .i64))))] [.d (.one (.int .i64))] [.box Zaa]
noncomputable def Zar (a0 : Zaa.ty) (a1 : List Int) : Option (Int × Zaa.ty) := Zas.f (a0,a1,())
theorem Zng (a0 : Zaa.ty) (a1 : List Int) : Zar a0 a1 =
 (Zam a0 (a1.length : Int)).bind fun x1 =>
  if decide (0 ≤ x1.1) then
   (a1[x1.1.toNat]?).bind fun x2 =>
    some (x2,(x1.2.1,x1.2.2.1,x1.2.2.2.1,()))
  else
   none :=
 (mk_f _ _ _ _ _ _ _ 4000).trans (by kernel_rfl)
def Zox : Fn := { np := 2,io := [true,false],res := [.t 4],own := [false],body :=
 (.seq (.reg false [.V 4 (.asg (.c (.bool false)))] [0,1] [0,1000]) (.seq (.reg false [.V 5 (.mv (.t 0)),.V 6 (.mv (.t 1)),.W 7 (.call (.c (.fn 463 [])) [.t 5,.t 6]),.V 8 (.bin .eql (.t 7) (.c (.int .i64 0))),.V 4 (.asg (.t 8))] [0,4] [0,1000]) .ret)) }
noncomputable def Zjc : List (Nat × Callee) := [(463,Zao)]
def Zqs : List (Nat × ET) := []
noncomputable def Zd5 : Callee := Zab Zjc Zqs Zox [.box Zaa,.d (.one (.int .i64))] [.d (.one .bool)] [.box Zaa]
noncomputable def Zf9 (a0 : Zaa.ty) (a1 : Int) : Option (Bool × Zaa.ty) := Zd5.f (a0,a1,())
theorem Zo7 (a0 : Zaa.ty) (a1 : Int) : Zf9 a0 a1 =
 (Zam a0 a1).bind fun x1 =>
  some ((x1.1 == 0),(x1.2.1,x1.2.2.1,x1.2.2.2.1,())) :=
 (mk_f _ _ _ _ _ _ _ 4000).trans (by kernel_rfl)
def Zvc : Fn := { np := 2,io := [],res := [.t 4],own := [false],body :=
 (.seq (.reg false [.V 4 (.asg (.c (.int .i64 0)))] [0,1] []) (.seq (.seq (.reg false [.V 5 (.mv (.t 0)),.V 6 (.mv (.t 1)),.V 7 (.bin .lss (.t 5) (.t 6))] [0,1,7] []) (.cond (.t 7) (.seq (.reg false [.V 8 (.mv (.t 0)),.V 4 (.asg (.t 8))] [4] []) .ret) .skip)) (.seq (.reg false [.V 9 (.mv (.t 1)),.V 4 (.asg (.t 9))] [4] []) .ret))) }
noncomputable def Zof : List (Nat × Callee) := []
def Zxd : List (Nat × ET) := []
noncomputable def Zip : Callee := Zab Zof Zxd Zvc [.d (.one (.int .i64)),.d (.one (.int .i64))] [.d (.one (.int .i64))] []
noncomputable def Zlv (a0 : Int) (a1 : Int) : Option (Int) := Zip.f (a0,a1,())
theorem Zuo (a0 : Int) (a1 : Int) : Zlv a0 a1 =
 if decide (a0 < a1) then
  some a0
 else
  some a1 :=
 (mk_f _ _ _ _ _ _ _ 4000).trans (by kernel_rfl)
def Zpt : Fn := { np := 2,io := [true,false],res := [.cell 4 (some 4)],own := [false],body :=
 (.seq (.reg false [.W 4 (.alloc 4 (.agg [.str [],.int .i64 0,.int .i64 0,.int .i64 0]))] [0,1,4] [0,4,1000]) (.seq (.reg false [.V 6 (.mv (.t 1)),.V 7 (.mv (.t 0)),.W 8 (.call (.c (.fn 463 [])) [.t 7,.c (.int .i64 8)]),.V 9 (.bin .add (.c (.int .i64 1)) (.t 8)),.V 10 (.build [.str [],.int .i64 0,.int .i64 0,.int .i64 0] [(0,1,.t 6),(1,1,.t 9)]),.W 5 (.alloc 4 (.agg [.str [],.int .i64 0,.int .i64 0,.int .i64 0])),⟨none,true,.sto 4 (.t 5) (.t 10),none,false,[]⟩] [0,4,5] [0,4,5,1000]) (.seq (.reg false [.V 11 (.mv (.t 0)),.W 12 (.call (.c (.fn 463 [])) [.t 11,.c (.int .i64 20)]),.V 13 (.fa 2 (.t 5)),⟨none,true,.sto 1 (.t 13) (.t 12),none,false,[]⟩] [0,4,5] [0,4,5,1000]) (.seq (.reg true [⟨some 14,false,.fa 2 (.t 5),none,false,[1000000,1000001]⟩,⟨some 15,false,.ld none (.t 14),none,false,[1000000,1000001]⟩,⟨some 16,false,.fa 1 (.t 5),none,false,[1000000,1000001]⟩,⟨some 17,false,.ld none (.t 16),none,false,[1000000,1000001]⟩,⟨some 18,false,.bin .add (.t 15) (.t 17),none,false,[1000000,1000001]⟩,⟨some 19,false,.bin .sub (.t 18) (.c (.int .i64 1)),none,false,[1000001]⟩,.V 20 (.mv (.t 0)),⟨some 21,true,.call (.c (.fn 463 [])) [.t 20,.c (.int .i64 8)],none,true,[5,14,15,16,17,18]⟩,.V 22 (.bin .add (.t 19) (.t 21)),.V 23 (.call (.c (.fn 1053 [])) [.c (.int .i64 39),.t 22]),.V 24 (.fa 3 (.t 5)),⟨none,true,.sto 1 (.t 24) (.t 23),none,false,[]⟩] [0,4,5] [0,4,5,1000]) (.seq (.reg false [.V 25 (.ld (some 4) (.t 5)),⟨none,true,.sto 4 (.t 4) (.t 25),none,false,[]⟩] [0,4] [0,4,1000]) .ret))))) }
noncomputable def Ziw : List (Nat × Callee) := [(463,Zao),(1053,Zip)]
def Zqn : List (Nat × ET) := []
noncomputable def Zed : Callee := Zab Ziw Zqn Zpt [.box Zaa,.d (.one .str)] [.d T_Peg] [.box Zaa]
noncomputable def Zbt (a0 : Zaa.ty) (a1 : List UInt8) : Option (T_Peg.ty × Zaa.ty) := Zed.f (a0,a1,())
theorem Zor (a0 : Zaa.ty) (a1 : List UInt8) : Zbt a0 a1 =
 (Zam a0 8).bind fun x1 =>
  (Zam (x1.2.1,x1.2.2.1,x1.2.2.2.1,()) 20).bind fun x2 =>
   (Zam (x2.2.1,x2.2.2.1,x2.2.2.2.1,()) 8).bind fun x3 =>
    (Zlv 39 (IntKind.i64.wrap ((IntKind.i64.wrap ((IntKind.i64.wrap (x2.1 + (IntKind.i64.wrap (1 + x1.1)))) - 1)) + x3.1))).bind fun x4 =>
     some ((a1,IntKind.i64.wrap (1 + x1.1),x2.1,x4,()),(x3.2.1,x3.2.2.1,x3.2.2.2.1,())) :=
 (mk_f _ _ _ _ _ _ _ 4000).trans (by kernel_rfl)
def Ztq : Fn := { np := 2,io := [true,false],res := [.cell 4 (some 4)],own := [false],body :=
 (.seq (.reg false [.W 3 (.box 4 (.t 1)),.W 4 (.alloc 4 (.agg [.str [],.int .i64 0,.int .i64 0,.int .i64 0]))] [0,3,4] [0,3,4,1000]) (.seq (.seq (.reg false [.V 5 (.mv (.t 0)),.W 6 (.call (.c (.fn 463 [])) [.t 5,.c (.int .i64 16)])] [0,3,4,6] [0,3,4,1000]) (.block 0 (.seq (.reg false [.V 8 (.bin .eql (.t 6) (.c (.int .i64 0))),.V 7 (.asg (.t 8))] [0,3,4,6,7] [0,3,4,1000]) (.cond (.t 7) (.reg false [.V 9 (.mv (.t 0)),.V 10 (.bsl 1 (.int .i64 0) 4 [(0,.c (.int .i64 0)),(1,.c (.int .i64 1)),(2,.c (.int .i64 40)),(3,.c (.int .i64 41))]),.W 11 (.call (.c (.fn 445 [])) [.t 9,.t 10]),.V 12 (.fa 1 (.t 3)),⟨none,true,.sto 1 (.t 12) (.t 11),none,false,[]⟩] [0,3,4] [0,3,4,1000]) (.seq (.reg false [.V 14 (.bin .eql (.t 6) (.c (.int .i64 1))),.V 13 (.asg (.t 14))] [0,3,4,13] [0,3,4,1000]) (.cond (.t 13) (.reg false [.V 15 (.mv (.t 0)),.V 16 (.fa 2 (.t 3)),.V 17 (.ld none (.t 16)),.V 18 (.bsl 1 (.int .i64 0) 3 [(0,.c (.int .i64 39)),(1,.c (.int .i64 40)),(2,.t 17)]),.W 19 (.call (.c (.fn 445 [])) [.t 15,.t 18]),.V 20 (.fa 3 (.t 3)),⟨none,true,.sto 1 (.t 20) (.t 19),none,false,[]⟩] [0,3,4] [0,3,4,1000]) .skip)))))) (.seq (.reg false [.V 21 (.ld (some 4) (.t 3)),⟨none,true,.sto 4 (.t 4) (.t 21),none,false,[]⟩] [0,4] [0,4,1000]) .ret))) }
noncomputable def Zmj : List (Nat × Callee) := [(445,Zas),(463,Zao)]
def Zu3 : List (Nat × ET) := [(10,(.one (.int .i64))),(18,(.one (.int .i64)))]
noncomputable def Zgk : Callee := Zab Zmj Zu3 Ztq [.box Zaa,.d T_Peg] [.d T_Peg] [.box Zaa]
noncomputable def Zj1 (a0 : Zaa.ty) (a1 : T_Peg.ty) : Option (T_Peg.ty × Zaa.ty) := Zgk.f (a0,a1,())
theorem Ztf (a0 : Zaa.ty) (a1 : T_Peg.ty) : Zj1 a0 a1 =
 (Zam a0 16).bind fun x1 =>
  if (x1.1 == 0) then
   (Zar (x1.2.1,x1.2.2.1,x1.2.2.2.1,()) [0,1,40,41]).bind fun x2 =>
    some ((a1.1,x2.1,a1.2.2.1,a1.2.2.2.1,()),(x2.2.1,x2.2.2.1,x2.2.2.2.1,()))
  else
   if (x1.1 == 1) then
    (Zar (x1.2.1,x1.2.2.1,x1.2.2.2.1,()) [39,40,a1.2.2.1]).bind fun x3 =>
     some ((a1.1,a1.2.1,a1.2.2.1,x3.1,()),(x3.2.1,x3.2.2.1,x3.2.2.2.1,()))
   else
    some (a1,(x1.2.1,x1.2.2.1,x1.2.2.2.1,())) :=
 (mk_f _ _ _ _ _ _ _ 4000).trans (by kernel_rfl)
def Zm3 : C :=
 .reg false [.V 22 (.mv (.t 3)),.V 23 (.mv (.t 5)),.V 24 (.bin .add (.c (.int .i64 48)) (.t 23)),.V 25 (.conv (.int .u8) (.t 24)),.V 26 (.bsl 1 (.int .u8 0) 1 [(0,.t 25)]),.W 27 (.app 1 1 (.t 22) (.t 26)),.W 3 (.asg (.t 27))] [0,3,4] [3]
def Zma : C :=
 .reg false [.V 14 (.mv (.t 4)),.V 15 (.bin .quo (.t 14) (.c (.int .i64 10))),.V 4 (.asg (.t 15))] [0,3,4] [3]
def Zmu : C :=
 .seq (.seq (.reg false [.V 12 (.mv (.t 4)),.V 13 (.bin .neq (.t 12) (.c (.int .i64 0)))] [0,3,4,13] [3]) (.cond (.t 13) .skip (.exit 0))) (.seq (.block 1 (.seq (.reg false [.V 16 (.mv (.t 4)),.V 17 (.bin .rem (.t 16) (.c (.int .i64 10))),.V 5 (.asg (.t 17))] [0,3,4,5] [3]) (.seq (.seq (.reg false [.V 18 (.mv (.t 5)),.V 19 (.bin .lss (.t 18) (.c (.int .i64 0)))] [0,3,4,5,19] [3]) (.cond (.t 19) (.reg false [.V 20 (.mv (.t 5)),.V 21 (.un .neg (.t 20)),.V 5 (.asg (.t 21))] [0,3,4,5] [3]) .skip)) (.norm [0,3,4,5] [3] Zm3)))) Zma)
def Zgm : C :=
 .norm [0,3,4] [3] Zmu
def Zme : C :=
 .seq (.seq (.reg false [.V 37 (.mv (.t 7)),.V 38 (.bin .geq (.t 37) (.c (.int .i64 0)))] [3,6,7,38] [3,6]) (.cond (.t 38) .skip (.exit 2))) (.seq (.block 3 (.reg false [.V 41 (.mv (.t 6)),.V 42 (.mv (.t 3)),.V 43 (.mv (.t 7)),.V 44 (.ia 1 (.t 42) (.t 43)),.V 45 (.ld none (.t 44)),.V 46 (.bsl 1 (.int .u8 0) 1 [(0,.t 45)]),.W 47 (.app 1 1 (.t 41) (.t 46)),.W 6 (.asg (.t 47))] [3,6,7] [3,6])) (.reg false [.V 39 (.mv (.t 7)),.V 40 (.bin .sub (.t 39) (.c (.int .i64 1))),.V 7 (.asg (.t 40))] [3,6,7] [3,6]))
def Zmm : C :=
 .norm [3,6,7] [3,6] Zme
def Zm2 : C :=
 .seq (.reg false [.V 48 (.mv (.t 6)),.V 49 (.conv .bytesStr (.t 48)),.V 2 (.asg (.t 49))] [2] []) .ret
def Zmh : C :=
 .seq (.reg false [.V 33 (.bsl 1 (.int .u8 0) 0 []),.W 6 (.asg (.t 33))] [3,6] [3,6]) (.seq (.seq (.reg false [.V 34 (.mv (.t 3)),.V 35 (.len (.t 34)),.V 36 (.bin .sub (.t 35) (.c (.int .i64 1))),.V 7 (.asg (.t 36))] [3,6,7] [3,6]) (.block 2 (.loop Zmm))) Zm2)
def Zgr : C :=
 .seq (.seq (.reg false [.V 28 (.mv (.t 0)),.V 29 (.bin .lss (.t 28) (.c (.int .i64 0)))] [3,29] [3]) (.cond (.t 29) (.reg false [.V 30 (.mv (.t 3)),.V 31 (.bsl 1 (.int .u8 0) 1 [(0,.c (.int .u8 45))]),.W 32 (.app 1 1 (.t 30) (.t 31)),.W 3 (.asg (.t 32))] [3] [3]) .skip)) (.norm [3] [3] Zmh)
def Zcg : Fn := { np := 1,io := [],res := [.t 2],own := [false],body :=
 (.seq (.reg false [.V 2 (.asg (.c (.str [])))] [0] []) (.seq (.seq (.reg false [.V 8 (.mv (.t 0)),.V 9 (.bin .eql (.t 8) (.c (.int .i64 0)))] [0,9] []) (.cond (.t 9) (.seq (.reg false [.V 2 (.asg (.c (.str [48])))] [2] []) .ret) .skip)) (.seq (.reg false [.V 10 (.bsl 1 (.int .u8 0) 0 []),.W 3 (.asg (.t 10))] [0,3] [3]) (.seq (.seq (.reg false [.V 11 (.mv (.t 0)),.V 4 (.asg (.t 11))] [0,3,4] [3]) (.block 0 (.loop Zgm))) Zgr)))) }
noncomputable def Zbs : List (Nat × Callee) := []
def Zc2 : List (Nat × ET) := [(3,(.one (.int .u8))),(6,(.one (.int .u8))),(10,(.one (.int .u8))),(22,(.one (.int .u8))),(26,(.one (.int .u8))),(27,(.one (.int .u8))),(30,(.one (.int .u8))),(31,(.one (.int .u8))),(32,(.one (.int .u8))),(33,(.one (.int .u8))),(34,(.one (.int .u8))),(41,(.one (.int .u8))),(42,(.one (.int .u8))),(46,(.one (.int .u8))),(47,(.one (.int .u8))),(48,(.one (.int .u8)))]
noncomputable def Zir : Callee := Zab Zbs Zc2 Zcg [.d (.one (.int .i64))] [.d (.one .str)] []
noncomputable def Zl2 (a0 : Int) : Option (List UInt8) := Zir.f (a0,())
noncomputable def Zbl  (v0 : Int) (v4 : Int) (r3 : List Int) : Option (List UInt8) :=
 goL Zbs Zc2 (vleave Zcg [.d (.one (.int .i64))] [.d (.one .str)] [] []) [.c Zmu,.l Zgm,.e 0,.c Zgr]
  ⟨[(0,.int .i64 v0),(3,.view 3 0 r3.length),(4,.int .i64 v4)],[(3,some (.sl (.one (.int .u8)) r3))]⟩
noncomputable def Zg6  (v0 : Int) (v4 : Int) (v5 : Int) (r3 : List Int) : Option (List UInt8) :=
 goL Zbs Zc2 (vleave Zcg [.d (.one (.int .i64))] [.d (.one .str)] [] []) [.c Zm3,.e 1,.c Zma,.l Zgm,.e 0,.c Zgr]
  ⟨[(0,.int .i64 v0),(3,.view 3 0 r3.length),(4,.int .i64 v4),(5,.int .i64 v5)],[(3,some (.sl (.one (.int .u8)) r3))]⟩
noncomputable def Zck  (r3 : List Int) : Option (List UInt8) :=
 goL Zbs Zc2 (vleave Zcg [.d (.one (.int .i64))] [.d (.one .str)] [] []) [.c Zmh]
  ⟨[(3,.view 3 0 r3.length)],[(3,some (.sl (.one (.int .u8)) r3))]⟩
noncomputable def Zd1  (v7 : Int) (r3 : List Int) (r6 : List Int) : Option (List UInt8) :=
 goL Zbs Zc2 (vleave Zcg [.d (.one (.int .i64))] [.d (.one .str)] [] []) [.c Zme,.l Zmm,.e 2,.c Zm2]
  ⟨[(3,.view 3 0 r3.length),(6,.view 6 0 r6.length),(7,.int .i64 v7)],[(3,some (.sl (.one (.int .u8)) r3)),(6,some (.sl (.one (.int .u8)) r6))]⟩
theorem Zvp (a0 : Int) : Zl2 a0 =
 if (a0 == 0) then
  some [48]
 else
  Zbl a0 a0 [] :=
 (mk_f _ _ _ _ _ _ _ 4000).trans (by kernel_rfl)
theorem Zi5  (v0 : Int) (v4 : Int) (r3 : List Int) : Zbl v0 v4 r3 =
 if (v4 != 0) then
  if decide (v4.tmod 10 < 0) then
   Zg6 v0 v4 (IntKind.i64.wrap (0 - (v4.tmod 10))) r3
  else
   Zg6 v0 v4 (v4.tmod 10) r3
 else
  if decide (v0 < 0) then
   if decide (r3.length + 1 < lim) then
    Zck ((r3.take r3.length) ++ [45])
   else
    none
  else
   Zck r3 :=
 (goL_dn _ _ _ 4000 _ _).trans (by kernel_rfl)
theorem Zd3  (v0 : Int) (v4 : Int) (v5 : Int) (r3 : List Int) : Zg6 v0 v4 v5 r3 =
 if decide (r3.length + 1 < lim) then
  Zbl v0 (IntKind.i64.wrap (v4.tdiv 10)) ((r3.take r3.length) ++ [IntKind.u8.wrap (IntKind.i64.wrap (48 + v5))])
 else
  none :=
 (goL_dn _ _ _ 4000 _ _).trans (by kernel_rfl)
theorem Zqv  (r3 : List Int) : Zck r3 =
 Zd1 (IntKind.i64.wrap ((r3.length : Int) - 1)) r3 [] :=
 (goL_dn _ _ _ 4000 _ _).trans (by kernel_rfl)
theorem Zja  (v7 : Int) (r3 : List Int) (r6 : List Int) : Zd1 v7 r3 r6 =
 if decide (v7 ≥ 0) then
  if decide (0 ≤ v7) && decide (v7 < (r3.length : Int)) then
   (r3[v7.toNat]?).bind fun x1 =>
    if decide (r6.length + 1 < lim) then
     Zd1 (IntKind.i64.wrap (v7 - 1)) r3 ((r6.take r6.length) ++ [x1])
    else
     none
  else
   none
 else
  some ((r6.take r6.length).map vu8) :=
 (goL_dn _ _ _ 4000 _ _).trans (by kernel_rfl)
def Zkx : C :=
 .seq (.seq (.reg false [.V 10 (.mv (.t 5)),.V 11 (.mv (.t 3)),.V 12 (.len (.t 11)),.V 13 (.bin .lss (.t 10) (.t 12))] [0,3,4,5,13] [0,3,4,1000]) (.cond (.t 13) .skip (.exit 0))) (.seq (.block 1 (.seq (.reg false [.V 16 (.mv (.t 0)),.W 17 (.call (.c (.fn 642 [])) [.t 16,.c (.int .i64 4)]),.V 18 (.un .not (.t 17))] [0,3,4,5,18] [0,3,4,1000]) (.cond (.t 18) (.reg false [.V 19 (.mv (.t 4)),.V 20 (.mv (.t 0)),.V 21 (.mv (.t 3)),.V 22 (.mv (.t 5)),.V 23 (.ia 1 (.t 21) (.t 22)),.V 24 (.ld none (.t 23)),.W 25 (.call (.c (.fn 972 [])) [.t 20,.t 24]),.V 26 (.bsl 4 (.agg [.str [],.int .i64 0,.int .i64 0,.int .i64 0]) 1 [(0,.t 25)]),.W 27 (.app 4 40 (.t 19) (.t 26)),.W 4 (.asg (.t 27))] [0,3,4,5] [0,3,4,1000]) .skip))) (.reg false [.V 14 (.mv (.t 5)),.V 15 (.bin .add (.t 14) (.c (.int .i64 1))),.V 5 (.asg (.t 15))] [0,3,4,5] [0,3,4,1000]))
def Zkp : C :=
 .norm [0,3,4,5] [0,3,4,1000] Zkx
def Zlr : C :=
 .seq (.seq (.reg false [.V 45 (.mv (.t 7)),.V 46 (.mv (.t 6)),.V 47 (.bin .lss (.t 45) (.t 46))] [0,4,6,7,47] [0,4,1000]) (.cond (.t 47) .skip (.exit 3))) (.seq (.block 4 (.reg false [.V 50 (.mv (.t 4)),.V 51 (.mv (.t 0)),.V 52 (.mv (.t 7)),.V 53 (.call (.c (.fn 726 [])) [.t 52]),.V 54 (.bin .add (.c (.str [110])) (.t 53)),.W 55 (.call (.c (.fn 972 [])) [.t 51,.t 54]),.V 56 (.bsl 4 (.agg [.str [],.int .i64 0,.int .i64 0,.int .i64 0]) 1 [(0,.t 55)]),.W 57 (.app 4 40 (.t 50) (.t 56)),.W 4 (.asg (.t 57))] [0,4,6,7] [0,4,1000])) (.reg false [.V 48 (.mv (.t 7)),.V 49 (.bin .add (.t 48) (.c (.int .i64 1))),.V 7 (.asg (.t 49))] [0,4,6,7] [0,4,1000]))
def Zk8 : C :=
 .norm [0,4,6,7] [0,4,1000] Zlr
def Zlj : C :=
 .seq (.reg false [.V 58 (.mv (.t 4)),.W 2 (.asg (.t 58))] [0,2] [0,2,4,1000]) .ret
def Zlp : C :=
 .seq (.seq (.reg false [.V 28 (.mv (.t 0)),.W 29 (.call (.c (.fn 463 [])) [.t 28,.c (.int .i64 20)])] [0,4,29] [0,4,1000]) (.block 2 (.seq (.reg false [.V 31 (.bin .eql (.t 29) (.c (.int .i64 0))),.V 30 (.asg (.t 31))] [0,4,29,30] [0,4,1000]) (.cond (.t 30) (.reg false [.V 32 (.mv (.t 4)),.V 33 (.mv (.t 0)),.V 34 (.mv (.t 0)),.W 35 (.call (.c (.fn 972 [])) [.t 34,.c (.str [122,122])]),.W 36 (.call (.c (.fn 973 [])) [.t 33,.t 35]),.V 37 (.bsl 4 (.agg [.str [],.int .i64 0,.int .i64 0,.int .i64 0]) 1 [(0,.t 36)]),.W 38 (.app 4 40 (.t 32) (.t 37)),.W 4 (.asg (.t 38))] [0,4] [0,4,1000]) (.seq (.reg false [.V 40 (.bin .eql (.t 29) (.c (.int .i64 1))),.V 39 (.asg (.t 40))] [0,4,39] [0,4,1000]) (.cond (.t 39) (.seq (.reg false [.V 41 (.mv (.t 0)),.V 42 (.bsl 1 (.int .i64 0) 2 [(0,.c (.int .i64 8)),(1,.c (.int .i64 9))]),.W 43 (.call (.c (.fn 445 [])) [.t 41,.t 42]),.V 6 (.asg (.t 43))] [0,6] [0,1000]) (.seq (.reg false [.V 44 (.bsl 4 (.agg [.str [],.int .i64 0,.int .i64 0,.int .i64 0]) 0 []),.W 4 (.asg (.t 44))] [0,4,6] [0,4,1000]) (.seq (.reg false [.V 7 (.asg (.c (.int .i64 0)))] [0,4,6,7] [0,4,1000]) (.block 3 (.loop Zk8))))) .skip)))))) Zlj
def Zfd : Fn := { np := 1,io := [true],res := [.t 2],own := [true],body :=
 (.seq (.reg false [.W 2 (.asg (.c (.nils 4)))] [0] [0,1000]) (.seq (.reg false [.V 8 (.bsl 1 (.str []) 4 [(0,.c (.str [119,97])),(1,.c (.str [119,98])),(2,.c (.str [119,99])),(3,.c (.str [119,100]))]),.W 3 (.asg (.t 8))] [0,3] [0,3,1000]) (.seq (.reg false [.V 9 (.bsl 4 (.agg [.str [],.int .i64 0,.int .i64 0,.int .i64 0]) 0 []),.W 4 (.asg (.t 9))] [0,3,4] [0,3,4,1000]) (.seq (.seq (.reg false [.V 5 (.asg (.c (.int .i64 0)))] [0,3,4,5] [0,3,4,1000]) (.block 0 (.loop Zkp))) Zlp)))) }
noncomputable def Zd0 : List (Nat × Callee) := [(445,Zas),(463,Zao),(642,Zd5),(726,Zir),(972,Zed),(973,Zgk)]
def Zgv : List (Nat × ET) := [(2,T_Peg),(3,(.one .str)),(4,T_Peg),(8,(.one .str)),(9,T_Peg),(11,(.one .str)),(19,T_Peg),(21,(.one .str)),(26,T_Peg),(27,T_Peg),(32,T_Peg),(37,T_Peg),(38,T_Peg),(42,(.one (.int .i64))),(44,T_Peg),(50,T_Peg),(56,T_Peg),(57,T_Peg),(58,T_Peg)]
noncomputable def Zdt : Callee := Zab Zd0 Zgv Zfd [.box Zaa] [.tok T_Peg] [.box Zaa]
noncomputable def Zga (a0 : Zaa.ty) : Option (List T_Peg.ty × Zaa.ty) := Zdt.f (a0,())
noncomputable def Zby  (v5 : Int) (r0_0 : List Int) (r0_1 : Int) (r0_2 : Int) (r3 : List (List UInt8)) (r4 : List T_Peg.ty) : Option (List T_Peg.ty × Zaa.ty) :=
 goL Zd0 Zgv (vleave Zfd [.box Zaa] [.tok T_Peg] [.box Zaa] []) [.c Zkx,.l Zkp,.e 0,.c Zlp]
  ⟨[(0,.loc 0 0 0),(3,.view 3 0 r3.length),(4,.view 4 0 r4.length),(5,.int .i64 v5)],[(0,some (.var 3 (.agg [.sl (.one (.int .u8)) r0_0,.int .i64 r0_1,.int .u64 r0_2]))),(3,some (.sl (.one .str) r3)),(4,some (.sl T_Peg r4)),(1000,none)]⟩
noncomputable def Zc4  (v6 : Int) (v7 : Int) (r0_0 : List Int) (r0_1 : Int) (r0_2 : Int) (r4 : List T_Peg.ty) : Option (List T_Peg.ty × Zaa.ty) :=
 goL Zd0 Zgv (vleave Zfd [.box Zaa] [.tok T_Peg] [.box Zaa] []) [.c Zlr,.l Zk8,.e 3,.e 2,.c Zlj]
  ⟨[(0,.loc 0 0 0),(4,.view 4 0 r4.length),(6,.int .i64 v6),(7,.int .i64 v7)],[(0,some (.var 3 (.agg [.sl (.one (.int .u8)) r0_0,.int .i64 r0_1,.int .u64 r0_2]))),(4,some (.sl T_Peg r4)),(1000,none)]⟩
theorem Zt3 (a0 : Zaa.ty) : Zga a0 =
 Zby 0 a0.1 a0.2.1 a0.2.2.1 [[119,97],[119,98],[119,99],[119,100]] [] :=
 (mk_f _ _ _ _ _ _ _ 4000).trans (by kernel_rfl)
theorem Zhg  (v5 : Int) (r0_0 : List Int) (r0_1 : Int) (r0_2 : Int) (r3 : List (List UInt8)) (r4 : List T_Peg.ty) : Zby v5 r0_0 r0_1 r0_2 r3 r4 =
 if decide (v5 < (r3.length : Int)) then
  (Zf9 (r0_0,r0_1,r0_2,()) 4).bind fun x1 =>
   if (!x1.1) then
    if decide (0 ≤ v5) && decide (v5 < (r3.length : Int)) then
     (r3[v5.toNat]?).bind fun x2 =>
      (Zbt (x1.2.1,x1.2.2.1,x1.2.2.2.1,()) x2).bind fun x3 =>
       if decide (r4.length + 1 < lim) then
        Zby (IntKind.i64.wrap (v5 + 1)) x3.2.1 x3.2.2.1 x3.2.2.2.1 r3 ((r4.take r4.length) ++ [(x3.1.1,x3.1.2.1,x3.1.2.2.1,x3.1.2.2.2.1,())])
       else
        none
    else
     none
   else
    Zby (IntKind.i64.wrap (v5 + 1)) x1.2.1 x1.2.2.1 x1.2.2.2.1 r3 r4
 else
  (Zam (r0_0,r0_1,r0_2,()) 20).bind fun x4 =>
   if (x4.1 == 0) then
    (Zbt (x4.2.1,x4.2.2.1,x4.2.2.2.1,()) [122,122]).bind fun x5 =>
     (Zj1 (x5.2.1,x5.2.2.1,x5.2.2.2.1,()) (x5.1.1,x5.1.2.1,x5.1.2.2.1,x5.1.2.2.2.1,())).bind fun x6 =>
      if decide (r4.length + 1 < lim) then
       some ((((r4.take r4.length) ++ [(x6.1.1,x6.1.2.1,x6.1.2.2.1,x6.1.2.2.2.1,())]).take (((r4.take r4.length) ++ [(x6.1.1,x6.1.2.1,x6.1.2.2.1,x6.1.2.2.2.1,())]).length)),(x6.2.1,x6.2.2.1,x6.2.2.2.1,()))
      else
       none
   else
    if (x4.1 == 1) then
     (Zar (x4.2.1,x4.2.2.1,x4.2.2.2.1,()) [8,9]).bind fun x7 =>
      Zc4 x7.1 0 x7.2.1 x7.2.2.1 x7.2.2.2.1 []
    else
     some ((r4.take r4.length),(x4.2.1,x4.2.2.1,x4.2.2.2.1,())) :=
 (goL_dn _ _ _ 4000 _ _).trans (by kernel_rfl)
theorem Zhn  (v6 : Int) (v7 : Int) (r0_0 : List Int) (r0_1 : Int) (r0_2 : Int) (r4 : List T_Peg.ty) : Zc4 v6 v7 r0_0 r0_1 r0_2 r4 =
 if decide (v7 < v6) then
  (Zl2 v7).bind fun x1 =>
   if decide ([110].length + x1.length ≤ strMax) then
    (Zbt (r0_0,r0_1,r0_2,()) ([110] ++ x1)).bind fun x2 =>
     if decide (r4.length + 1 < lim) then
      Zc4 v6 (IntKind.i64.wrap (v7 + 1)) x2.2.1 x2.2.2.1 x2.2.2.2.1 ((r4.take r4.length) ++ [(x2.1.1,x2.1.2.1,x2.1.2.2.1,x2.1.2.2.2.1,())])
     else
      none
   else
    none
 else
  some ((r4.take r4.length),(r0_0,r0_1,r0_2,())) :=
 (goL_dn _ _ _ 4000 _ _).trans (by kernel_rfl)
def Zmk : Fn := { np := 1,io := [true],res := [.t 2],own := [false],body :=
 (.seq (.reg false [.V 2 (.asg (.c (.int .i64 0)))] [0] [0,1000]) (.seq (.reg false [.V 3 (.mv (.t 0)),.V 4 (.bsl 1 (.int .i64 0) 7 [(0,.c (.int .i64 1)),(1,.c (.int .i64 10)),(2,.c (.int .i64 100)),(3,.c (.int .i64 1000)),(4,.c (.int .i64 20000)),(5,.c (.int .i64 0)),(6,.c (.int .i64 20001))]),.W 5 (.call (.c (.fn 445 [])) [.t 3,.t 4]),.V 2 (.asg (.t 5))] [0,2] [0,1000]) .ret)) }
noncomputable def Zfu : List (Nat × Callee) := [(445,Zas)]
def Znp : List (Nat × ET) := [(4,(.one (.int .i64)))]
noncomputable def Zbe : Callee := Zab Zfu Znp Zmk [.box Zaa] [.d (.one (.int .i64))] [.box Zaa]
noncomputable def Zbx (a0 : Zaa.ty) : Option (Int × Zaa.ty) := Zbe.f (a0,())
theorem Zm1 (a0 : Zaa.ty) : Zbx a0 =
 (Zar a0 [1,10,100,1000,20000,0,20001]).bind fun x1 =>
  some (x1.1,(x1.2.1,x1.2.2.1,x1.2.2.2.1,())) :=
 (mk_f _ _ _ _ _ _ _ 4000).trans (by kernel_rfl)
def Zl5 : Fn := { np := 1,io := [],res := [.t 2,.t 3,.t 4],own := [false,true,false],body :=
 (.seq (.reg false [.V 2 (.asg (.c (.int .i64 0))),.W 3 (.asg (.c (.nils 4))),.V 4 (.asg (.c (.int .i64 0)))] [0] []) (.seq (.reg false [.V 8 (.mv (.t 0)),.W 9 (.call (.c (.fn 441 [])) [.t 8]),.V 5 (.asg (.t 9))] [5] [9,10000]) (.seq (.reg false [.V 10 (.mv (.t 5)),.V 11 (.bsl 1 (.int .i64 0) 7 [(0,.c (.int .i64 1)),(1,.c (.int .i64 1)),(2,.c (.int .i64 2)),(3,.c (.int .i64 3)),(4,.c (.int .i64 6)),(5,.c (.int .i64 7)),(6,.c (.int .i64 0))]),.W 12 (.call (.c (.fn 445 [])) [.t 10,.t 11]),.V 6 (.asg (.t 12))] [5,6] [9,10000]) (.seq (.reg false [.V 13 (.mv (.t 5)),.W 14 (.call (.c (.fn 784 [])) [.t 13]),.W 7 (.asg (.t 14))] [5,6,7] [7,9,10000]) (.seq (.reg false [.V 15 (.mv (.t 6)),.V 16 (.mv (.t 7)),.V 17 (.mv (.t 5)),.W 18 (.call (.c (.fn 469 [])) [.t 17]),.V 2 (.asg (.t 15)),.W 3 (.asg (.t 16)),.V 4 (.asg (.t 18))] [2,3,4] [3,7]) .ret))))) }
noncomputable def Ze0 : List (Nat × Callee) := [(441,Zdz),(445,Zas),(469,Zbe),(784,Zdt)]
def Zm4 : List (Nat × ET) := [(3,T_Peg),(7,T_Peg),(8,(.one (.int .u8))),(11,(.one (.int .i64))),(14,T_Peg),(16,T_Peg)]
noncomputable def Zcc : Callee := Zab Ze0 Zm4 Zl5 [.d (.one (.sl (.one (.int .u8))))] [.d (.one (.int .i64)),.tok T_Peg,.d (.one (.int .i64))] []
noncomputable def Zgd (a0 : List Int) : Option (Int × List T_Peg.ty × Int) := Zcc.f (a0,())
theorem Zl0 (a0 : List Int) : Zgd a0 =
 (Zj4 a0).bind fun x1 =>
  (Zar x1 [1,1,2,3,6,7,0]).bind fun x2 =>
   (Zga (x2.2.1,x2.2.2.1,x2.2.2.2.1,())).bind fun x3 =>
    (Zbx (x3.2.1,x3.2.2.1,x3.2.2.2.1,())).bind fun x4 =>
     some (x2.1,(x3.1.take x3.1.length),x4.1) :=
 (mk_f _ _ _ _ _ _ _ 4000).trans (by kernel_rfl)
def Zsy : Fn := { np := 1,io := [],res := [.t 2],own := [false],body :=
 (.seq (.reg false [.V 2 (.asg (.c (.bool false)))] [0] []) (.seq (.reg false [.V 3 (.mv (.t 0)),.V 4 (.bin .geq (.t 3) (.c (.int .u8 48))),.V 5 (.mv (.t 4)),.G 6 (.mv (.t 0)) 2 true,.G 7 (.bin .leq (.t 6) (.c (.int .u8 57))) 2 true,.V 8 (.pick (.t 5) (.t 7) (.c (.bool false))),.V 2 (.asg (.t 8))] [2] []) .ret)) }
noncomputable def Zmt : List (Nat × Callee) := []
def Zvr : List (Nat × ET) := []
noncomputable def Zg7 : Callee := Zab Zmt Zvr Zsy [.d (.one (.int .u8))] [.d (.one .bool)] []
noncomputable def Zkl (a0 : Int) : Option (Bool) := Zg7.f (a0,())
theorem Ztu (a0 : Int) : Zkl a0 =
 if decide (a0 ≥ 48) then
  some (decide (a0 ≤ 57))
 else
  some false :=
 (mk_f _ _ _ _ _ _ _ 4000).trans (by kernel_rfl)
def Z0j : Fn := { np := 2,io := [],res := [.t 4],own := [false],body :=
 (.seq (.reg false [.V 4 (.asg (.c (.bool false)))] [0,1] []) (.seq (.reg false [.V 5 (.mv (.t 0)),.V 6 (.mv (.t 1)),.V 7 (.bin .leq (.t 5) (.t 6)),.V 4 (.asg (.t 7))] [4] []) .ret)) }
noncomputable def Ztb : List (Nat × Callee) := []
def Z2c : List (Nat × ET) := []
noncomputable def Zfh : Callee := Zab Ztb Z2c Z0j [.d (.one (.int .i64)),.d (.one (.int .i64))] [.d (.one .bool)] []
noncomputable def Zki (a0 : Int) (a1 : Int) : Option (Bool) := Zfh.f (a0,a1,())
theorem Zl4 (a0 : Int) (a1 : Int) : Zki a0 a1 =
 some (decide (a0 ≤ a1)) :=
 (mk_f _ _ _ _ _ _ _ 4000).trans (by kernel_rfl)
def Zmn : C :=
 .seq (.reg false [.V 21 (.mv (.t 4)),.V 22 (.un .not (.t 21)),.V 23 (.mv (.t 22)),.G 24 (.mv (.t 3)) 2 true,.G 25 (.bin .eql (.t 24) (.c (.int .i64 0))) 2 true,.G 26 (.mv (.t 25)) 2 true,.G 27 (.mv (.t 0)) 5 false,.G 28 (.mv (.t 3)) 5 false,.G 29 (.ix (.t 27) (.t 28)) 5 false,.G 30 (.call (.c (.fn 22 [])) [.t 29]) 5 false,.G 31 (.un .not (.t 30)) 5 false,.G 32 (.pick (.t 26) (.c (.bool true)) (.t 31)) 2 true,.V 33 (.pick (.t 23) (.t 32) (.c (.bool false)))] [0,3,33] []) (.cond (.t 33) (.seq (.reg false [.V 2 (.asg (.c (.bool false)))] [2] []) .ret) .skip)
def Zmi : C :=
 .reg false [.V 9 (.mv (.t 3)),.V 10 (.bin .add (.t 9) (.c (.int .i64 1))),.V 3 (.asg (.t 10))] [0,3] []
def Zms : C :=
 .seq (.seq (.reg false [.V 5 (.mv (.t 3)),.V 6 (.mv (.t 0)),.V 7 (.lens (.t 6)),.V 8 (.bin .lss (.t 5) (.t 7))] [0,3,8] []) (.cond (.t 8) .skip (.exit 0))) (.seq (.block 1 (.seq (.reg false [.V 11 (.mv (.t 0)),.V 12 (.mv (.t 3)),.V 13 (.ix (.t 11) (.t 12)),.V 14 (.bin .geq (.t 13) (.c (.int .u8 97))),.V 15 (.mv (.t 14)),.G 16 (.mv (.t 0)) 4 true,.G 17 (.mv (.t 3)) 4 true,.G 18 (.ix (.t 16) (.t 17)) 4 true,.G 19 (.bin .leq (.t 18) (.c (.int .u8 122))) 4 true,.V 20 (.pick (.t 15) (.t 19) (.c (.bool false))),.V 4 (.asg (.t 20))] [0,3,4] []) (.norm [0,3,4] [] Zmn))) Zmi)
def Zg8 : C :=
 .norm [0,3] [] Zms
def Zg3 : C :=
 .seq (.reg false [.V 34 (.mv (.t 0)),.V 35 (.bin .neq (.t 34) (.c (.str []))),.V 36 (.mv (.t 35)),.G 37 (.mv (.t 0)) 2 true,.G 38 (.lens (.t 37)) 2 true,.G 39 (.call (.c (.fn 21 [])) [.t 38,.c (.int .i64 10)]) 2 true,.V 40 (.pick (.t 36) (.t 39) (.c (.bool false))),.V 2 (.asg (.t 40))] [2] []) .ret
def Zgn : Fn := { np := 1,io := [],res := [.t 2],own := [false],body :=
 (.seq (.reg false [.V 2 (.asg (.c (.bool false)))] [0] []) (.seq (.seq (.reg false [.V 3 (.asg (.c (.int .i64 0)))] [0,3] []) (.block 0 (.loop Zg8))) Zg3)) }
noncomputable def Zel : List (Nat × Callee) := [(21,Zfh),(22,Zg7)]
def Zit : List (Nat × ET) := []
noncomputable def Zie : Callee := Zab Zel Zit Zgn [.d (.one .str)] [.d (.one .bool)] []
noncomputable def Zl8 (a0 : List UInt8) : Option (Bool) := Zie.f (a0,())
noncomputable def Zch  (v0 : List UInt8) (v3 : Int) : Option (Bool) :=
 goL Zel Zit (vleave Zgn [.d (.one .str)] [.d (.one .bool)] [] []) [.c Zms,.l Zg8,.e 0,.c Zg3]
  ⟨[(0,.str v0),(3,.int .i64 v3)],[]⟩
noncomputable def Zd2  (v0 : List UInt8) (v3 : Int) (v4 : Bool) : Option (Bool) :=
 goL Zel Zit (vleave Zgn [.d (.one .str)] [.d (.one .bool)] [] []) [.c Zmn,.e 1,.c Zmi,.l Zg8,.e 0,.c Zg3]
  ⟨[(0,.str v0),(3,.int .i64 v3),(4,.bool v4)],[]⟩
theorem Zuw (a0 : List UInt8) : Zl8 a0 =
 Zch a0 0 :=
 (mk_f _ _ _ _ _ _ _ 4000).trans (by kernel_rfl)
theorem Zi8  (v0 : List UInt8) (v3 : Int) : Zch v0 v3 =
 if decide (v3 < (v0.length : Int)) then
  if decide (0 ≤ v3) then
   (v0[v3.toNat]?).bind fun x1 =>
    if decide ((x1.toNat : Int) ≥ 97) then
     if decide (0 ≤ v3) then
      (v0[v3.toNat]?).bind fun x2 =>
       Zd2 v0 v3 (decide ((x2.toNat : Int) ≤ 122))
     else
      none
    else
     Zd2 v0 v3 false
  else
   none
 else
  if (!(v0 == [])) then
   (Zki (v0.length : Int) 10).bind fun x3 =>
    some x3
  else
   some false :=
 (goL_dn _ _ _ 4000 _ _).trans (by kernel_rfl)
theorem Zqz  (v0 : List UInt8) (v3 : Int) (v4 : Bool) : Zd2 v0 v3 v4 =
 if (!v4) then
  if (v3 == 0) then
   some false
  else
   if decide (0 ≤ v3) then
    (v0[v3.toNat]?).bind fun x1 =>
     (Zkl (x1.toNat : Int)).bind fun x2 =>
      if (!x2) then
       some false
      else
       Zch v0 (IntKind.i64.wrap (v3 + 1))
   else
    none
 else
  Zch v0 (IntKind.i64.wrap (v3 + 1)) :=
 (goL_dn _ _ _ 4000 _ _).trans (by kernel_rfl)
def Zu4 : Fn := { np := 3,io := [],res := [.t 6],own := [false],body :=
 (.seq (.reg false [.V 6 (.asg (.c (.bool false)))] [0,1,2] []) (.seq (.reg false [.V 7 (.mv (.t 1)),.V 8 (.mv (.t 0)),.V 9 (.bin .leq (.t 7) (.t 8)),.V 10 (.mv (.t 9)),.G 11 (.mv (.t 0)) 3 true,.G 12 (.mv (.t 2)) 3 true,.G 13 (.bin .leq (.t 11) (.t 12)) 3 true,.V 14 (.pick (.t 10) (.t 13) (.c (.bool false))),.V 6 (.asg (.t 14))] [6] []) .ret)) }
noncomputable def Zn5 : List (Nat × Callee) := []
def Zxj : List (Nat × ET) := []
noncomputable def Zba : Callee := Zab Zn5 Zxj Zu4 [.d (.one (.int .i64)),.d (.one (.int .i64)),.d (.one (.int .i64))] [.d (.one .bool)] []
noncomputable def Zbg (a0 : Int) (a1 : Int) (a2 : Int) : Option (Bool) := Zba.f (a0,a1,a2,())
theorem Zuz (a0 : Int) (a1 : Int) (a2 : Int) : Zbg a0 a1 a2 =
 if decide (a1 ≤ a0) then
  some (decide (a0 ≤ a2))
 else
  some false :=
 (mk_f _ _ _ _ _ _ _ 4000).trans (by kernel_rfl)
def Zvl : Fn := { np := 1,io := [],res := [.t 2],own := [false],body :=
 (.seq (.reg false [.V 2 (.asg (.c (.bool false)))] [0] []) (.seq (.reg false [.V 3 (.mv (.t 0)),.V 4 (.call (.c (.fn 23 [])) [.t 3,.c (.int .i64 1),.c (.int .i64 40)]),.V 2 (.asg (.t 4))] [2] []) .ret)) }
noncomputable def Zn4 : List (Nat × Callee) := [(23,Zba)]
def Zw7 : List (Nat × ET) := []
noncomputable def Zik : Callee := Zab Zn4 Zw7 Zvl [.d (.one (.int .i64))] [.d (.one .bool)] []
noncomputable def Zq0 (a0 : Int) : Option (Bool) := Zik.f (a0,())
theorem Zux (a0 : Int) : Zq0 a0 =
 (Zbg a0 1 40).bind fun x1 =>
  some x1 :=
 (mk_f _ _ _ _ _ _ _ 4000).trans (by kernel_rfl)
def Zu5 : Fn := { np := 1,io := [],res := [.t 2],own := [false],body :=
 (.seq (.reg false [.V 2 (.asg (.c (.bool false)))] [0] []) (.seq (.reg false [.V 3 (.mv (.t 0)),.V 4 (.call (.c (.fn 23 [])) [.t 3,.c (.int .i64 0),.c (.int .i64 39)]),.V 2 (.asg (.t 4))] [2] []) .ret)) }
noncomputable def Zob : List (Nat × Callee) := [(23,Zba)]
def Zw9 : List (Nat × ET) := []
noncomputable def Ziq : Callee := Zab Zob Zw9 Zu5 [.d (.one (.int .i64))] [.d (.one .bool)] []
noncomputable def Zl3 (a0 : Int) : Option (Bool) := Ziq.f (a0,())
theorem Zvi (a0 : Int) : Zl3 a0 =
 (Zbg a0 0 39).bind fun x1 =>
  some x1 :=
 (mk_f _ _ _ _ _ _ _ 4000).trans (by kernel_rfl)
def Zpr : Fn := { np := 1,io := [],res := [.t 2],own := [false],body :=
 (.seq (.reg false [.W 1 (.box 4 (.t 0)),.V 2 (.asg (.c (.bool false)))] [1] [1]) (.seq (.reg false [.V 3 (.fa 0 (.t 1)),.V 4 (.ld none (.t 3)),.V 5 (.call (.c (.fn 24 [])) [.t 4]),.V 6 (.mv (.t 5)),.G 7 (.fa 1 (.t 1)) 3 true,.G 8 (.ld none (.t 7)) 3 true,.G 9 (.call (.c (.fn 977 [])) [.t 8]) 3 true,.V 10 (.pick (.t 6) (.t 9) (.c (.bool false))),.V 11 (.mv (.t 10)),.G 12 (.fa 2 (.t 1)) 8 true,.G 13 (.ld none (.t 12)) 8 true,.G 14 (.call (.c (.fn 978 [])) [.t 13]) 8 true,.V 15 (.pick (.t 11) (.t 14) (.c (.bool false))),.V 16 (.mv (.t 15)),.G 17 (.fa 3 (.t 1)) 13 true,.G 18 (.ld none (.t 17)) 13 true,.G 19 (.call (.c (.fn 978 [])) [.t 18]) 13 true,.V 20 (.pick (.t 16) (.t 19) (.c (.bool false))),.V 21 (.mv (.t 20)),.G 22 (.fa 2 (.t 1)) 18 true,.G 23 (.ld none (.t 22)) 18 true,.G 24 (.fa 1 (.t 1)) 18 true,.G 25 (.ld none (.t 24)) 18 true,.G 26 (.bin .add (.t 23) (.t 25)) 18 true,.G 27 (.bin .sub (.t 26) (.c (.int .i64 1))) 18 true,.G 28 (.fa 3 (.t 1)) 18 true,.G 29 (.ld none (.t 28)) 18 true,.G 30 (.bin .leq (.t 27) (.t 29)) 18 true,.V 31 (.pick (.t 21) (.t 30) (.c (.bool false))),.V 2 (.asg (.t 31))] [2] []) .ret)) }
noncomputable def Zi4 : List (Nat × Callee) := [(24,Zie),(977,Zik),(978,Ziq)]
def Zqr : List (Nat × ET) := []
noncomputable def Zbb : Callee := Zab Zi4 Zqr Zpr [.d T_Peg] [.d (.one .bool)] []
noncomputable def Zaw (a0 : T_Peg.ty) : Option (Bool) := Zbb.f (a0,())
theorem Zo4 (a0 : T_Peg.ty) : Zaw a0 =
 (Zl8 a0.1).bind fun x1 =>
  if x1 then
   (Zq0 a0.2.1).bind fun x2 =>
    if x2 then
     (Zl3 a0.2.2.1).bind fun x3 =>
      if x3 then
       (Zl3 a0.2.2.2.1).bind fun x4 =>
        if x4 then
         some (decide (IntKind.i64.wrap ((IntKind.i64.wrap (a0.2.2.1 + a0.2.1)) - 1) ≤ a0.2.2.2.1))
        else
         some false
      else
       some false
    else
     some false
  else
   some false :=
 (mk_f _ _ _ _ _ _ _ 4000).trans (by kernel_rfl)
def Zhz : C :=
 .seq (.reg false [.V 8 (.bin .lss (.t 7) (.t 6))] [0,5,6,7,8] []) (.seq (.cond (.t 8) .skip (.exit 0)) (.seq (.block 1 (.seq (.reg false [.V 9 (.mv (.t 7)),.V 10 (.ia 4 (.t 5) (.t 7)),.V 11 (.ld (some 4) (.t 10)),.W 4 (.alloc 4 (.agg [.str [],.int .i64 0,.int .i64 0,.int .i64 0])),.V 3 (.asg (.t 9)),⟨none,true,.sto 4 (.t 4) (.t 11),none,false,[]⟩] [0,3,4,5,6,7] [4]) (.seq (.reg true [.V 12 (.ld (some 4) (.t 4)),.V 13 (.call (.c (.fn 791 [])) [.t 12]),.V 14 (.un .not (.t 13)),.V 15 (.mv (.t 14)),.G 16 (.mv (.t 3)) 3 false,.G 17 (.bin .gtr (.t 16) (.c (.int .i64 0))) 3 false,.G 18 (.mv (.t 17)) 3 false,.G 19 (.mv (.t 0)) 6 true,.G 20 (.mv (.t 3)) 6 true,.G 21 (.bin .sub (.t 20) (.c (.int .i64 1))) 6 true,.G 22 (.ia 4 (.t 19) (.t 21)) 6 true,.G 23 (.fa 0 (.t 22)) 6 true,.G 24 (.ld none (.t 23)) 6 true,.G 25 (.fa 0 (.t 4)) 6 true,.G 26 (.ld none (.t 25)) 6 true,.G 27 (.bin .geq (.t 24) (.t 26)) 6 true,.G 28 (.pick (.t 18) (.t 27) (.c (.bool false))) 3 false,.V 29 (.pick (.t 15) (.c (.bool true)) (.t 28))] [0,5,6,7,29] []) (.cond (.t 29) (.seq (.reg false [.V 2 (.asg (.c (.bool false)))] [2] []) .ret) .skip)))) (.reg false [.V 30 (.bin .add (.t 7) (.c (.int .i64 1))),.V 7 (.mv (.t 30))] [0,5,6,7] [])))
def Zic : C :=
 .norm [0,5,6,7] [] Zhz
def Zhh : C :=
 .seq (.reg false [.V 31 (.mv (.t 0)),.V 32 (.len (.t 31)),.V 33 (.call (.c (.fn 21 [])) [.t 32,.c (.int .i64 8)]),.V 2 (.asg (.t 33))] [2] []) .ret
def Zhj : Fn := { np := 1,io := [],res := [.t 2],own := [false],body :=
 (.seq (.reg false [.V 2 (.asg (.c (.bool false)))] [0] []) (.seq (.seq (.reg false [.V 5 (.mv (.t 0)),.V 6 (.len (.t 5)),.V 7 (.mv (.c (.int .i64 0)))] [0,5,6,7] []) (.block 0 (.loop Zic))) Zhh)) }
noncomputable def Zd9 : List (Nat × Callee) := [(21,Zfh),(791,Zbb)]
def Ziv : List (Nat × ET) := [(5,T_Peg),(19,T_Peg),(31,T_Peg)]
noncomputable def Zb7 : Callee := Zab Zd9 Ziv Zhj [.d (.one (.sl T_Peg))] [.d (.one .bool)] []
noncomputable def Zax (a0 : List T_Peg.ty) : Option (Bool) := Zb7.f (a0,())
noncomputable def Za5  (v0 : List T_Peg.ty) (v5 : List T_Peg.ty) (v6 : Int) (v7 : Int) : Option (Bool) :=
 goL Zd9 Ziv (vleave Zhj [.d (.one (.sl T_Peg))] [.d (.one .bool)] [] []) [.c Zhz,.l Zic,.e 0,.c Zhh]
  ⟨[(0,.sl T_Peg v0),(5,.sl T_Peg v5),(6,.int .i64 v6),(7,.int .i64 v7)],[]⟩
theorem Zqb (a0 : List T_Peg.ty) : Zax a0 =
 Za5 a0 a0 (a0.length : Int) 0 :=
 (mk_f _ _ _ _ _ _ _ 4000).trans (by kernel_rfl)
theorem Zmq  (v0 : List T_Peg.ty) (v5 : List T_Peg.ty) (v6 : Int) (v7 : Int) : Za5 v0 v5 v6 v7 =
 if decide (v7 < v6) then
  if decide (0 ≤ v7) then
   (v5[v7.toNat]?).bind fun x1 =>
    (Zaw x1).bind fun x2 =>
     if (!x2) then
      some false
     else
      if decide (v7 > 0) then
       if decide (0 ≤ IntKind.i64.wrap (v7 - 1)) then
        (v0[(IntKind.i64.wrap (v7 - 1)).toNat]?).bind fun x3 =>
         if (!Op.bytesLess x3.1 x1.1) then
          some false
         else
          Za5 v0 v5 v6 (IntKind.i64.wrap (v7 + 1))
       else
        none
      else
       Za5 v0 v5 v6 (IntKind.i64.wrap (v7 + 1))
  else
   none
 else
  (Zki (v0.length : Int) 8).bind fun x4 =>
   some x4 :=
 (goL_dn _ _ _ 4000 _ _).trans (by kernel_rfl)
noncomputable def Zb4 : Callee := placeC Zax
noncomputable def Za6 (a0 : Int) (a1 : List T_Peg.ty) (a2 : Int) : Option (List (List Int) × Int) := Zb4.f (a0,a1,a2,())
theorem Zos (a0 : Int) (a1 : List T_Peg.ty) (a2 : Int) : Za6 a0 a1 a2 = placeF Zax a0 a1 a2 := rfl
def Zi6 : C :=
 .seq (.reg false [.V 19 (.bin .lss (.t 18) (.t 17))] [0,7,8,9,16,17,18,19] [4]) (.seq (.cond (.t 19) .skip (.exit 2)) (.seq (.block 3 (.seq (.reg false [.V 20 (.ia 1 (.t 16) (.t 18)),.V 21 (.ld none (.t 20)),.V 6 (.asg (.t 21))] [0,6,7,8,9,16,17,18] [4]) (.seq (.reg false [.V 22 (.mv (.t 6)),.V 23 (.call (.c (.fn 23 [])) [.t 22,.c (.int .i64 0),.c (.int .i64 8)]),.V 24 (.un .not (.t 23))] [0,7,8,9,16,17,18,24] [4]) (.cond (.t 24) (.seq (.reg false [.V 2 (.asg (.c (.bool false)))] [2] []) .ret) .skip)))) (.reg false [.V 25 (.bin .add (.t 18) (.c (.int .i64 1))),.V 18 (.mv (.t 25))] [0,7,8,9,16,17,18] [4])))
def Zi9 : C :=
 .norm [0,7,8,9,16,17,18] [4] Zi6
def Zix : C :=
 .reg false [.V 26 (.bin .add (.t 9) (.c (.int .i64 1))),.V 9 (.mv (.t 26))] [0,7,8,9] []
def Zi0 : C :=
 .seq (.reg false [.V 10 (.bin .lss (.t 9) (.t 8))] [0,7,8,9,10] []) (.seq (.cond (.t 10) .skip (.exit 0)) (.seq (.block 1 (.seq (.reg false [.V 11 (.ia 1 (.t 7) (.t 9)),.V 12 (.ld none (.t 11)),.W 4 (.asg (.t 12))] [0,4,7,8,9] [4]) (.seq (.seq (.reg false [.V 13 (.mv (.t 4)),.V 14 (.len (.t 13)),.V 15 (.bin .neq (.t 14) (.c (.int .i64 40)))] [0,4,7,8,9,15] [4]) (.cond (.t 15) (.seq (.reg false [.V 2 (.asg (.c (.bool false)))] [2] []) .ret) .skip)) (.seq (.reg false [.V 16 (.mv (.t 4)),.V 17 (.len (.t 16)),.V 18 (.mv (.c (.int .i64 0)))] [0,7,8,9,16,17,18] [4]) (.block 2 (.loop Zi9)))))) Zix))
def Zd4 : C :=
 .norm [0,7,8,9] [] Zi0
def Zd8 : C :=
 .seq (.reg false [.V 27 (.mv (.t 0)),.V 28 (.len (.t 27)),.V 29 (.call (.c (.fn 23 [])) [.t 28,.c (.int .i64 1),.c (.int .i64 6)]),.V 2 (.asg (.t 29))] [2] []) .ret
def Zec : Fn := { np := 1,io := [],res := [.t 2],own := [false],body :=
 (.seq (.reg false [.V 2 (.asg (.c (.bool false)))] [0] []) (.seq (.seq (.reg false [.V 7 (.mv (.t 0)),.V 8 (.len (.t 7)),.V 9 (.mv (.c (.int .i64 0)))] [0,7,8,9] []) (.block 0 (.loop Zd4))) Zd8)) }
noncomputable def Zcv : List (Nat × Callee) := [(23,Zba)]
def Zer : List (Nat × ET) := [(4,(.one (.int .i64))),(7,(.one (.sl (.one (.int .i64))))),(12,(.one (.int .i64))),(13,(.one (.int .i64))),(16,(.one (.int .i64))),(27,(.one (.sl (.one (.int .i64)))))]
noncomputable def Zeu : Callee := Zab Zcv Zer Zec [.d (.one (.sl (.one (.sl (.one (.int .i64))))))] [.d (.one .bool)] []
noncomputable def Zmg (a0 : List (List Int)) : Option (Bool) := Zeu.f (a0,())
noncomputable def Zbd  (v0 : List (List Int)) (v7 : List (List Int)) (v8 : Int) (v9 : Int) : Option (Bool) :=
 goL Zcv Zer (vleave Zec [.d (.one (.sl (.one (.sl (.one (.int .i64))))))] [.d (.one .bool)] [] []) [.c Zi0,.l Zd4,.e 0,.c Zd8]
  ⟨[(0,.sl (.one (.sl (.one (.int .i64)))) v0),(7,.sl (.one (.sl (.one (.int .i64)))) v7),(8,.int .i64 v8),(9,.int .i64 v9)],[]⟩
noncomputable def Zb6  (v0 : List (List Int)) (v7 : List (List Int)) (v8 : Int) (v9 : Int) (v16 : List Int) (v17 : Int) (v18 : Int) : Option (Bool) :=
 goL Zcv Zer (vleave Zec [.d (.one (.sl (.one (.sl (.one (.int .i64))))))] [.d (.one .bool)] [] []) [.c Zi6,.l Zi9,.e 2,.e 1,.c Zix,.l Zd4,.e 0,.c Zd8]
  ⟨[(0,.sl (.one (.sl (.one (.int .i64)))) v0),(7,.sl (.one (.sl (.one (.int .i64)))) v7),(8,.int .i64 v8),(9,.int .i64 v9),(16,.sl (.one (.int .i64)) v16),(17,.int .i64 v17),(18,.int .i64 v18)],[(4,none)]⟩
theorem Zqq (a0 : List (List Int)) : Zmg a0 =
 Zbd a0 a0 (a0.length : Int) 0 :=
 (mk_f _ _ _ _ _ _ _ 4000).trans (by kernel_rfl)
theorem Zfv  (v0 : List (List Int)) (v7 : List (List Int)) (v8 : Int) (v9 : Int) : Zbd v0 v7 v8 v9 =
 if decide (v9 < v8) then
  if decide (0 ≤ v9) then
   (v7[v9.toNat]?).bind fun x1 =>
    if ((x1.length : Int) != 40) then
     some false
    else
     Zb6 v0 v7 v8 v9 x1 (x1.length : Int) 0
  else
   none
 else
  (Zbg (v0.length : Int) 1 6).bind fun x2 =>
   some x2 :=
 (goL_dn _ _ _ 4000 _ _).trans (by kernel_rfl)
theorem Zfi  (v0 : List (List Int)) (v7 : List (List Int)) (v8 : Int) (v9 : Int) (v16 : List Int) (v17 : Int) (v18 : Int) : Zb6 v0 v7 v8 v9 v16 v17 v18 =
 if decide (v18 < v17) then
  if decide (0 ≤ v18) then
   (v16[v18.toNat]?).bind fun x1 =>
    (Zbg x1 0 8).bind fun x2 =>
     if (!x2) then
      some false
     else
      Zb6 v0 v7 v8 v9 v16 v17 (IntKind.i64.wrap (v18 + 1))
  else
   none
 else
  Zbd v0 v7 v8 (IntKind.i64.wrap (v9 + 1)) :=
 (goL_dn _ _ _ 4000 _ _).trans (by kernel_rfl)
noncomputable def Zgp : Callee := partsC
noncomputable def Zpn (a0 : List (List Int)) (a1 : Int) : Option (List (List Int)) := Zgp.f (a0,a1,())
theorem Zlt (a0 : List (List Int)) (a1 : Int) : Zpn a0 a1 = partsF a0 a1 := rfl
def Z1l : Fn := { np := 2,io := [],res := [.t 4],own := [false],body :=
 (.seq (.reg false [.V 4 (.asg (.c (.bool false)))] [0,1] []) (.seq (.reg false [.V 5 (.mv (.t 0)),.V 6 (.bin .geq (.t 5) (.c (.int .i64 0))),.V 7 (.mv (.t 6)),.G 8 (.mv (.t 0)) 2 true,.G 9 (.mv (.t 1)) 2 true,.G 10 (.bin .lss (.t 8) (.t 9)) 2 true,.V 11 (.pick (.t 7) (.t 10) (.c (.bool false))),.V 4 (.asg (.t 11))] [4] []) .ret)) }
noncomputable def Zw1 : List (Nat × Callee) := []
def Z2u : List (Nat × ET) := []
noncomputable def Zp6 : Callee := Zab Zw1 Z2u Z1l [.d (.one (.int .i64)),.d (.one (.int .i64))] [.d (.one .bool)] []
noncomputable def Zu8 (a0 : Int) (a1 : Int) : Option (Bool) := Zp6.f (a0,a1,())
theorem Z16 (a0 : Int) (a1 : Int) : Zu8 a0 a1 =
 if decide (a0 ≥ 0) then
  some (decide (a0 < a1))
 else
  some false :=
 (mk_f _ _ _ _ _ _ _ 4000).trans (by kernel_rfl)
def Zho : C :=
 .seq (.seq (.reg false [.V 16 (.mv (.t 5)),.V 17 (.bin .leq (.t 16) (.c (.int .i64 8)))] [0,1,5,17] []) (.cond (.t 17) .skip (.exit 0))) (.seq (.block 1 (.seq (.reg false [.V 20 (.mv (.t 0)),.V 21 (.mv (.t 5)),.V 22 (.call (.c (.fn 786 [])) [.t 20,.t 21]),.W 6 (.asg (.t 22))] [0,1,5,6] [6]) (.seq (.seq (.reg false [.V 23 (.mv (.t 5)),.V 24 (.bin .sub (.t 23) (.c (.int .i64 1))),.V 25 (.mv (.t 1)),.V 26 (.len (.t 25)),.V 27 (.call (.c (.fn 4 [])) [.t 24,.t 26]),.V 28 (.un .not (.t 27))] [0,1,5,6,28] [6]) (.cond (.t 28) (.seq (.seq (.reg false [.V 29 (.mv (.t 6)),.V 30 (.len (.t 29)),.V 31 (.bin .gtr (.t 30) (.c (.int .i64 0)))] [0,1,5,31] []) (.cond (.t 31) (.seq (.reg false [.V 4 (.asg (.c (.bool false)))] [4] []) .ret) .skip)) (.exit 1)) .skip)) (.seq (.reg false [.V 32 (.mv (.t 1)),.V 33 (.mv (.t 5)),.V 34 (.bin .sub (.t 33) (.c (.int .i64 1))),.V 35 (.ia 4 (.t 32) (.t 34)),.V 36 (.ld (some 4) (.t 35)),.W 7 (.alloc 4 (.agg [.str [],.int .i64 0,.int .i64 0,.int .i64 0])),⟨none,true,.sto 4 (.t 7) (.t 36),none,false,[]⟩] [0,1,5,6,7] [6,7]) (.seq (.reg true [.V 37 (.mv (.t 6)),.V 38 (.len (.t 37)),.V 39 (.bin .neq (.t 38) (.c (.int .i64 1))),.V 40 (.mv (.t 39)),.G 41 (.mv (.t 6)) 3 false,.G 42 (.ia 1 (.t 41) (.c (.int .i64 0))) 3 false,.G 43 (.ld none (.t 42)) 3 false,.G 44 (.ia 1 (.t 43) (.c (.int .i64 2))) 3 false,.G 45 (.ld none (.t 44)) 3 false,.G 46 (.fa 1 (.t 7)) 3 false,.G 47 (.ld none (.t 46)) 3 false,.G 48 (.bin .neq (.t 45) (.t 47)) 3 false,.V 49 (.pick (.t 40) (.c (.bool true)) (.t 48)),.V 50 (.mv (.t 49)),.G 51 (.mv (.t 6)) 13 false,.G 52 (.ia 1 (.t 51) (.c (.int .i64 0))) 13 false,.G 53 (.ld none (.t 52)) 13 false,.G 54 (.ia 1 (.t 53) (.c (.int .i64 1))) 13 false,.G 55 (.ld none (.t 54)) 13 false,.G 56 (.fa 2 (.t 7)) 13 false,.G 57 (.ld none (.t 56)) 13 false,.G 58 (.bin .lss (.t 55) (.t 57)) 13 false,.V 59 (.pick (.t 50) (.c (.bool true)) (.t 58)),.V 60 (.mv (.t 59)),.G 61 (.mv (.t 6)) 23 false,.G 62 (.ia 1 (.t 61) (.c (.int .i64 0))) 23 false,.G 63 (.ld none (.t 62)) 23 false,.G 64 (.ia 1 (.t 63) (.c (.int .i64 1))) 23 false,.G 65 (.ld none (.t 64)) 23 false,.G 66 (.fa 1 (.t 7)) 23 false,.G 67 (.ld none (.t 66)) 23 false,.G 68 (.bin .add (.t 65) (.t 67)) 23 false,.G 69 (.bin .sub (.t 68) (.c (.int .i64 1))) 23 false,.G 70 (.fa 3 (.t 7)) 23 false,.G 71 (.ld none (.t 70)) 23 false,.G 72 (.bin .gtr (.t 69) (.t 71)) 23 false,.V 73 (.pick (.t 60) (.c (.bool true)) (.t 72))] [0,1,5,73] []) (.cond (.t 73) (.seq (.reg false [.V 4 (.asg (.c (.bool false)))] [4] []) .ret) .skip)))))) (.reg false [.V 18 (.mv (.t 5)),.V 19 (.bin .add (.t 18) (.c (.int .i64 1))),.V 5 (.asg (.t 19))] [0,1,5] []))
def Zhr : C :=
 .norm [0,1,5] [] Zho
def Zh5 : C :=
 .seq (.reg false [.V 4 (.asg (.c (.bool true)))] [4] []) .ret
def Zhk : C :=
 .seq (.seq (.reg false [.V 5 (.asg (.c (.int .i64 1)))] [0,1,5] []) (.block 0 (.loop Zhr))) Zh5
def Zdg : Fn := { np := 2,io := [],res := [.t 4],own := [false],body :=
 (.seq (.reg false [.V 4 (.asg (.c (.bool false)))] [0,1] []) (.seq (.seq (.reg false [.V 8 (.mv (.t 0)),.V 9 (.call (.c (.fn 787 [])) [.t 8]),.V 10 (.un .not (.t 9)),.V 11 (.mv (.t 10)),.G 12 (.mv (.t 1)) 3 false,.G 13 (.call (.c (.fn 715 [])) [.t 12]) 3 false,.G 14 (.un .not (.t 13)) 3 false,.V 15 (.pick (.t 11) (.c (.bool true)) (.t 14))] [0,1,15] []) (.cond (.t 15) (.seq (.reg false [.V 4 (.asg (.c (.bool false)))] [4] []) .ret) .skip)) (.norm [0,1] [] Zhk))) }
noncomputable def Zb8 : List (Nat × Callee) := [(4,Zp6),(715,Zb7),(786,Zgp),(787,Zeu)]
def Zd6 : List (Nat × ET) := [(6,(.one (.sl (.one (.int .i64))))),(8,(.one (.sl (.one (.int .i64))))),(12,T_Peg),(20,(.one (.sl (.one (.int .i64))))),(22,(.one (.sl (.one (.int .i64))))),(25,T_Peg),(29,(.one (.sl (.one (.int .i64))))),(32,T_Peg),(37,(.one (.sl (.one (.int .i64))))),(41,(.one (.sl (.one (.int .i64))))),(43,(.one (.int .i64))),(51,(.one (.sl (.one (.int .i64))))),(53,(.one (.int .i64))),(61,(.one (.sl (.one (.int .i64))))),(63,(.one (.int .i64)))]
noncomputable def Zd7 : Callee := Zab Zb8 Zd6 Zdg [.d (.one (.sl (.one (.sl (.one (.int .i64)))))),.d (.one (.sl T_Peg))] [.d (.one .bool)] []
noncomputable def Zf4 (a0 : List (List Int)) (a1 : List T_Peg.ty) : Option (Bool) := Zd7.f (a0,a1,())
noncomputable def Zhp  (v0 : List (List Int)) (v1 : List T_Peg.ty) : Option (Bool) :=
 goL Zb8 Zd6 (vleave Zdg [.d (.one (.sl (.one (.sl (.one (.int .i64)))))),.d (.one (.sl T_Peg))] [.d (.one .bool)] [] []) [.c Zhk]
  ⟨[(0,.sl (.one (.sl (.one (.int .i64)))) v0),(1,.sl T_Peg v1)],[]⟩
noncomputable def Za3  (v0 : List (List Int)) (v1 : List T_Peg.ty) (v5 : Int) : Option (Bool) :=
 goL Zb8 Zd6 (vleave Zdg [.d (.one (.sl (.one (.sl (.one (.int .i64)))))),.d (.one (.sl T_Peg))] [.d (.one .bool)] [] []) [.c Zho,.l Zhr,.e 0,.c Zh5]
  ⟨[(0,.sl (.one (.sl (.one (.int .i64)))) v0),(1,.sl T_Peg v1),(5,.int .i64 v5)],[]⟩
theorem Zop (a0 : List (List Int)) (a1 : List T_Peg.ty) : Zf4 a0 a1 =
 (Zmg a0).bind fun x1 =>
  if (!x1) then
   some false
  else
   (Zax a1).bind fun x2 =>
    if (!x2) then
     some false
    else
     Zhp a0 a1 :=
 (mk_f _ _ _ _ _ _ _ 4000).trans (by kernel_rfl)
theorem Zm0  (v0 : List (List Int)) (v1 : List T_Peg.ty) : Zhp v0 v1 =
 Za3 v0 v1 1 :=
 (goL_dn _ _ _ 4000 _ _).trans (by kernel_rfl)
theorem Zce  (v0 : List (List Int)) (v1 : List T_Peg.ty) (v5 : Int) : Za3 v0 v1 v5 =
 if decide (v5 ≤ 8) then
  (Zpn v0 v5).bind fun x1 =>
   (Zu8 (IntKind.i64.wrap (v5 - 1)) (v1.length : Int)).bind fun x2 =>
    if (!x2) then
     if decide ((x1.length : Int) > 0) then
      some false
     else
      Za3 v0 v1 (IntKind.i64.wrap (v5 + 1))
    else
     if decide (0 ≤ IntKind.i64.wrap (v5 - 1)) then
      (v1[(IntKind.i64.wrap (v5 - 1)).toNat]?).bind fun x3 =>
       if ((x1.length : Int) != 1) then
        some false
       else
        (x1[0]?).bind fun x4 =>
         (x4[2]?).bind fun x5 =>
          if (x5 != x3.2.1) then
           some false
          else
           (x1[0]?).bind fun x6 =>
            (x6[1]?).bind fun x7 =>
             if decide (x7 < x3.2.2.1) then
              some false
             else
              (x1[0]?).bind fun x8 =>
               (x8[1]?).bind fun x9 =>
                if decide (IntKind.i64.wrap ((IntKind.i64.wrap (x9 + x3.2.1)) - 1) > x3.2.2.2.1) then
                 some false
                else
                 Za3 v0 v1 (IntKind.i64.wrap (v5 + 1))
     else
      none
 else
  some true :=
 (goL_dn _ _ _ 4000 _ _).trans (by kernel_rfl)
def Zxe : Fn := { np := 3,io := [],res := [.t 6],own := [false],body :=
 (.seq (.reg false [.V 6 (.asg (.c (.bool false)))] [0,1,2] []) (.seq (.reg false [.V 7 (.mv (.t 0)),.V 8 (.mv (.t 1)),.V 9 (.bin .geq (.t 7) (.t 8)),.V 10 (.mv (.t 9)),.G 11 (.mv (.t 0)) 3 true,.G 12 (.mv (.t 2)) 3 true,.G 13 (.bin .leq (.t 11) (.t 12)) 3 true,.V 14 (.pick (.t 10) (.t 13) (.c (.bool false))),.V 6 (.asg (.t 14))] [6] []) .ret)) }
noncomputable def Zow : List (Nat × Callee) := []
def Zyp : List (Nat × ET) := []
noncomputable def Zdc : Callee := Zab Zow Zyp Zxe [.d (.one (.int .i64)),.d (.one (.int .i64)),.d (.one (.int .i64))] [.d (.one .bool)] []
noncomputable def Zfx (a0 : Int) (a1 : Int) (a2 : Int) : Option (Bool) := Zdc.f (a0,a1,a2,())
theorem Zxp (a0 : Int) (a1 : Int) (a2 : Int) : Zfx a0 a1 a2 =
 if decide (a0 ≥ a1) then
  some (decide (a0 ≤ a2))
 else
  some false :=
 (mk_f _ _ _ _ _ _ _ 4000).trans (by kernel_rfl)
def Zlg : C :=
 .seq (.seq (.reg false [.V 17 (.mv (.t 4)),.V 18 (.mv (.t 0)),.V 19 (.mv (.t 3)),.V 20 (.ia 1 (.t 18) (.t 19)),.V 21 (.ld none (.t 20)),.V 22 (.len (.t 21)),.V 23 (.bin .lss (.t 17) (.t 22))] [0,3,4,23] []) (.cond (.t 23) .skip (.exit 2))) (.seq (.block 3 (.seq (.reg false [.V 26 (.mv (.t 0)),.V 27 (.mv (.t 3)),.V 28 (.ia 1 (.t 26) (.t 27)),.V 29 (.ld none (.t 28)),.V 30 (.mv (.t 4)),.V 31 (.ia 1 (.t 29) (.t 30)),.V 32 (.ld none (.t 31)),.V 33 (.call (.c (.fn 1 [])) [.t 32,.c (.int .i64 0),.c (.int .i64 8)]),.V 34 (.un .not (.t 33))] [0,3,4,34] []) (.cond (.t 34) (.seq (.reg false [.V 2 (.asg (.c (.bool false)))] [2] []) .ret) .skip))) (.reg false [.V 24 (.mv (.t 4)),.V 25 (.bin .add (.t 24) (.c (.int .i64 1))),.V 4 (.asg (.t 25))] [0,3,4] []))
def Zku : C :=
 .norm [0,3,4] [] Zlg
def Zk1 : C :=
 .reg false [.V 9 (.mv (.t 3)),.V 10 (.bin .add (.t 9) (.c (.int .i64 1))),.V 3 (.asg (.t 10))] [0,3] []
def Zkz : C :=
 .seq (.seq (.reg false [.V 5 (.mv (.t 3)),.V 6 (.mv (.t 0)),.V 7 (.len (.t 6)),.V 8 (.bin .lss (.t 5) (.t 7))] [0,3,8] []) (.cond (.t 8) .skip (.exit 0))) (.seq (.block 1 (.seq (.seq (.reg false [.V 11 (.mv (.t 0)),.V 12 (.mv (.t 3)),.V 13 (.ia 1 (.t 11) (.t 12)),.V 14 (.ld none (.t 13)),.V 15 (.len (.t 14)),.V 16 (.bin .neq (.t 15) (.c (.int .i64 40)))] [0,3,16] []) (.cond (.t 16) (.seq (.reg false [.V 2 (.asg (.c (.bool false)))] [2] []) .ret) .skip)) (.seq (.reg false [.V 4 (.asg (.c (.int .i64 0)))] [0,3,4] []) (.block 2 (.loop Zku))))) Zk1)
def Zfe : C :=
 .norm [0,3] [] Zkz
def Zff : C :=
 .seq (.reg false [.V 35 (.mv (.t 0)),.V 36 (.len (.t 35)),.V 37 (.bin .geq (.t 36) (.c (.int .i64 1))),.V 38 (.mv (.t 37)),.G 39 (.mv (.t 0)) 3 true,.G 40 (.len (.t 39)) 3 true,.G 41 (.bin .leq (.t 40) (.c (.int .i64 6))) 3 true,.V 42 (.pick (.t 38) (.t 41) (.c (.bool false))),.V 2 (.asg (.t 42))] [2] []) .ret
def Zfp : Fn := { np := 1,io := [],res := [.t 2],own := [false],body :=
 (.seq (.reg false [.V 2 (.asg (.c (.bool false)))] [0] []) (.seq (.seq (.reg false [.V 3 (.asg (.c (.int .i64 0)))] [0,3] []) (.block 0 (.loop Zfe))) Zff)) }
noncomputable def Zdu : List (Nat × Callee) := [(1,Zdc)]
def Zgy : List (Nat × ET) := [(6,(.one (.sl (.one (.int .i64))))),(11,(.one (.sl (.one (.int .i64))))),(14,(.one (.int .i64))),(18,(.one (.sl (.one (.int .i64))))),(21,(.one (.int .i64))),(26,(.one (.sl (.one (.int .i64))))),(29,(.one (.int .i64))),(35,(.one (.sl (.one (.int .i64))))),(39,(.one (.sl (.one (.int .i64)))))]
noncomputable def Zgq : Callee := Zab Zdu Zgy Zfp [.d (.one (.sl (.one (.sl (.one (.int .i64))))))] [.d (.one .bool)] []
noncomputable def Zpx (a0 : List (List Int)) : Option (Bool) := Zgq.f (a0,())
noncomputable def Zbv  (v0 : List (List Int)) (v3 : Int) : Option (Bool) :=
 goL Zdu Zgy (vleave Zfp [.d (.one (.sl (.one (.sl (.one (.int .i64))))))] [.d (.one .bool)] [] []) [.c Zkz,.l Zfe,.e 0,.c Zff]
  ⟨[(0,.sl (.one (.sl (.one (.int .i64)))) v0),(3,.int .i64 v3)],[]⟩
noncomputable def Zc8  (v0 : List (List Int)) (v3 : Int) (v4 : Int) : Option (Bool) :=
 goL Zdu Zgy (vleave Zfp [.d (.one (.sl (.one (.sl (.one (.int .i64))))))] [.d (.one .bool)] [] []) [.c Zlg,.l Zku,.e 2,.e 1,.c Zk1,.l Zfe,.e 0,.c Zff]
  ⟨[(0,.sl (.one (.sl (.one (.int .i64)))) v0),(3,.int .i64 v3),(4,.int .i64 v4)],[]⟩
theorem Zue (a0 : List (List Int)) : Zpx a0 =
 Zbv a0 0 :=
 (mk_f _ _ _ _ _ _ _ 4000).trans (by kernel_rfl)
theorem Zhu  (v0 : List (List Int)) (v3 : Int) : Zbv v0 v3 =
 if decide (v3 < (v0.length : Int)) then
  if decide (0 ≤ v3) then
   (v0[v3.toNat]?).bind fun x1 =>
    if ((x1.length : Int) != 40) then
     some false
    else
     Zc8 v0 v3 0
  else
   none
 else
  if decide ((v0.length : Int) ≥ 1) then
   some (decide ((v0.length : Int) ≤ 6))
  else
   some false :=
 (goL_dn _ _ _ 4000 _ _).trans (by kernel_rfl)
theorem Zh8  (v0 : List (List Int)) (v3 : Int) (v4 : Int) : Zc8 v0 v3 v4 =
 if decide (0 ≤ v3) then
  (v0[v3.toNat]?).bind fun x1 =>
   if decide (v4 < (x1.length : Int)) then
    if decide (0 ≤ v3) then
     (v0[v3.toNat]?).bind fun x2 =>
      if decide (0 ≤ v4) then
       (x2[v4.toNat]?).bind fun x3 =>
        (Zfx x3 0 8).bind fun x4 =>
         if (!x4) then
          some false
         else
          Zc8 v0 v3 (IntKind.i64.wrap (v4 + 1))
      else
       none
    else
     none
   else
    Zbv v0 (IntKind.i64.wrap (v3 + 1))
 else
  none :=
 (goL_dn _ _ _ 4000 _ _).trans (by kernel_rfl)
def Zrf : Fn := { np := 1,io := [],res := [.t 2],own := [false],body :=
 (.seq (.reg false [.V 2 (.asg (.c (.bool false)))] [0] []) (.seq (.reg false [.V 3 (.mv (.t 0)),.V 4 (.bin .geq (.t 3) (.c (.int .u8 97))),.V 5 (.mv (.t 4)),.G 6 (.mv (.t 0)) 2 true,.G 7 (.bin .leq (.t 6) (.c (.int .u8 122))) 2 true,.V 8 (.pick (.t 5) (.t 7) (.c (.bool false))),.V 2 (.asg (.t 8))] [2] []) .ret)) }
noncomputable def Zkr : List (Nat × Callee) := []
def Ztm : List (Nat × ET) := []
noncomputable def Zfk : Callee := Zab Zkr Ztm Zrf [.d (.one (.int .u8))] [.d (.one .bool)] []
noncomputable def Zen (a0 : Int) : Option (Bool) := Zfk.f (a0,())
theorem Zsc (a0 : Int) : Zen a0 =
 if decide (a0 ≥ 97) then
  some (decide (a0 ≤ 122))
 else
  some false :=
 (mk_f _ _ _ _ _ _ _ 4000).trans (by kernel_rfl)
def Zrs : Fn := { np := 1,io := [],res := [.t 2],own := [false],body :=
 (.seq (.reg false [.V 2 (.asg (.c (.bool false)))] [0] []) (.seq (.reg false [.V 3 (.mv (.t 0)),.V 4 (.bin .geq (.t 3) (.c (.int .u8 48))),.V 5 (.mv (.t 4)),.G 6 (.mv (.t 0)) 2 true,.G 7 (.bin .leq (.t 6) (.c (.int .u8 57))) 2 true,.V 8 (.pick (.t 5) (.t 7) (.c (.bool false))),.V 2 (.asg (.t 8))] [2] []) .ret)) }
noncomputable def Zlq : List (Nat × Callee) := []
def Zua : List (Nat × ET) := []
noncomputable def Zfn : Callee := Zab Zlq Zua Zrs [.d (.one (.int .u8))] [.d (.one .bool)] []
noncomputable def Zim (a0 : Int) : Option (Bool) := Zfn.f (a0,())
theorem Zsh (a0 : Int) : Zim a0 =
 if decide (a0 ≥ 48) then
  some (decide (a0 ≤ 57))
 else
  some false :=
 (mk_f _ _ _ _ _ _ _ 4000).trans (by kernel_rfl)
def Zk6 : C :=
 .seq (.seq (.reg false [.V 17 (.mv (.t 3)),.V 18 (.mv (.t 0)),.V 19 (.lens (.t 18)),.V 20 (.bin .lss (.t 17) (.t 19))] [0,3,20] []) (.cond (.t 20) .skip (.exit 0))) (.seq (.block 1 (.seq (.reg false [.V 23 (.mv (.t 0)),.V 24 (.mv (.t 3)),.V 25 (.ix (.t 23) (.t 24)),.V 26 (.call (.c (.fn 11 [])) [.t 25]),.V 27 (.un .not (.t 26)),.V 28 (.mv (.t 27)),.G 29 (.mv (.t 0)) 5 true,.G 30 (.mv (.t 3)) 5 true,.G 31 (.ix (.t 29) (.t 30)) 5 true,.G 32 (.call (.c (.fn 12 [])) [.t 31]) 5 true,.G 33 (.un .not (.t 32)) 5 true,.V 34 (.pick (.t 28) (.t 33) (.c (.bool false)))] [0,3,34] []) (.cond (.t 34) (.seq (.reg false [.V 2 (.asg (.c (.bool false)))] [2] []) .ret) .skip))) (.reg false [.V 21 (.mv (.t 3)),.V 22 (.bin .add (.t 21) (.c (.int .i64 1))),.V 3 (.asg (.t 22))] [0,3] []))
def Zk2 : C :=
 .norm [0,3] [] Zk6
def Zky : C :=
 .seq (.reg false [.V 2 (.asg (.c (.bool true)))] [2] []) .ret
def Zk5 : C :=
 .seq (.seq (.reg false [.V 3 (.asg (.c (.int .i64 0)))] [0,3] []) (.block 0 (.loop Zk2))) Zky
def Zfz : Fn := { np := 1,io := [],res := [.t 2],own := [false],body :=
 (.seq (.reg false [.V 2 (.asg (.c (.bool false)))] [0] []) (.seq (.seq (.reg false [.V 4 (.mv (.t 0)),.V 5 (.bin .eql (.t 4) (.c (.str []))),.V 6 (.mv (.t 5)),.G 7 (.mv (.t 0)) 2 false,.G 8 (.lens (.t 7)) 2 false,.G 9 (.bin .gtr (.t 8) (.c (.int .i64 10))) 2 false,.V 10 (.pick (.t 6) (.c (.bool true)) (.t 9)),.V 11 (.mv (.t 10)),.G 12 (.mv (.t 0)) 7 false,.G 13 (.ix (.t 12) (.c (.int .i64 0))) 7 false,.G 14 (.call (.c (.fn 11 [])) [.t 13]) 7 false,.G 15 (.un .not (.t 14)) 7 false,.V 16 (.pick (.t 11) (.c (.bool true)) (.t 15))] [0,16] []) (.cond (.t 16) (.seq (.reg false [.V 2 (.asg (.c (.bool false)))] [2] []) .ret) .skip)) (.norm [0] [] Zk5))) }
noncomputable def Zds : List (Nat × Callee) := [(11,Zfk),(12,Zfn)]
def Zgl : List (Nat × ET) := []
noncomputable def Zgz : Callee := Zab Zds Zgl Zfz [.d (.one .str)] [.d (.one .bool)] []
noncomputable def Zjy (a0 : List UInt8) : Option (Bool) := Zgz.f (a0,())
noncomputable def Zlm  (v0 : List UInt8) : Option (Bool) :=
 goL Zds Zgl (vleave Zfz [.d (.one .str)] [.d (.one .bool)] [] []) [.c Zk5]
  ⟨[(0,.str v0)],[]⟩
noncomputable def Zbz  (v0 : List UInt8) (v3 : Int) : Option (Bool) :=
 goL Zds Zgl (vleave Zfz [.d (.one .str)] [.d (.one .bool)] [] []) [.c Zk6,.l Zk2,.e 0,.c Zky]
  ⟨[(0,.str v0),(3,.int .i64 v3)],[]⟩
theorem Zs8 (a0 : List UInt8) : Zjy a0 =
 if (a0 == []) then
  some false
 else
  if decide ((a0.length : Int) > 10) then
   some false
  else
   (a0[0]?).bind fun x1 =>
    (Zen (x1.toNat : Int)).bind fun x2 =>
     if (!x2) then
      some false
     else
      Zlm a0 :=
 (mk_f _ _ _ _ _ _ _ 4000).trans (by kernel_rfl)
theorem Zpk  (v0 : List UInt8) : Zlm v0 =
 Zbz v0 0 :=
 (goL_dn _ _ _ 4000 _ _).trans (by kernel_rfl)
theorem Zhl  (v0 : List UInt8) (v3 : Int) : Zbz v0 v3 =
 if decide (v3 < (v0.length : Int)) then
  if decide (0 ≤ v3) then
   (v0[v3.toNat]?).bind fun x1 =>
    (Zen (x1.toNat : Int)).bind fun x2 =>
     if (!x2) then
      if decide (0 ≤ v3) then
       (v0[v3.toNat]?).bind fun x3 =>
        (Zim (x3.toNat : Int)).bind fun x4 =>
         if (!x4) then
          some false
         else
          Zbz v0 (IntKind.i64.wrap (v3 + 1))
      else
       none
     else
      Zbz v0 (IntKind.i64.wrap (v3 + 1))
  else
   none
 else
  some true :=
 (goL_dn _ _ _ 4000 _ _).trans (by kernel_rfl)
def Zte : Fn := { np := 1,io := [],res := [.t 2],own := [false],body :=
 (.seq (.reg false [.V 2 (.asg (.c (.bool false)))] [0] []) (.seq (.reg false [.V 3 (.mv (.t 0)),.V 4 (.call (.c (.fn 1 [])) [.t 3,.c (.int .i64 1),.c (.int .i64 40)]),.V 2 (.asg (.t 4))] [2] []) .ret)) }
noncomputable def Zmy : List (Nat × Callee) := [(1,Zdc)]
def Zvn : List (Nat × ET) := []
noncomputable def Zgw : Callee := Zab Zmy Zvn Zte [.d (.one (.int .i64))] [.d (.one .bool)] []
noncomputable def Zp1 (a0 : Int) : Option (Bool) := Zgw.f (a0,())
theorem Zs7 (a0 : Int) : Zp1 a0 =
 (Zfx a0 1 40).bind fun x1 =>
  some x1 :=
 (mk_f _ _ _ _ _ _ _ 4000).trans (by kernel_rfl)
def Zu6 : Fn := { np := 1,io := [],res := [.t 2],own := [false],body :=
 (.seq (.reg false [.V 2 (.asg (.c (.bool false)))] [0] []) (.seq (.reg false [.V 3 (.mv (.t 0)),.V 4 (.call (.c (.fn 1 [])) [.t 3,.c (.int .i64 0),.c (.int .i64 39)]),.V 2 (.asg (.t 4))] [2] []) .ret)) }
noncomputable def Zn0 : List (Nat × Callee) := [(1,Zdc)]
def Zxa : List (Nat × ET) := []
noncomputable def Zig : Callee := Zab Zn0 Zxa Zu6 [.d (.one (.int .i64))] [.d (.one .bool)] []
noncomputable def Zl7 (a0 : Int) : Option (Bool) := Zig.f (a0,())
theorem Zu7 (a0 : Int) : Zl7 a0 =
 (Zfx a0 0 39).bind fun x1 =>
  some x1 :=
 (mk_f _ _ _ _ _ _ _ 4000).trans (by kernel_rfl)
def Zuj : Fn := { np := 1,io := [],res := [.t 2],own := [false],body :=
 (.seq (.reg false [.V 2 (.asg (.c (.bool false)))] [0] []) (.seq (.reg true [.V 3 (.mv (.t 0)),.V 4 (.nilck (.t 3)),.V 5 (.fa 0 (.t 4)),.V 6 (.ld none (.t 5)),.V 7 (.call (.c (.fn 13 [])) [.t 6]),.V 8 (.mv (.t 7)),.G 9 (.mv (.t 0)) 5 true,.G 10 (.nilck (.t 9)) 5 true,.G 11 (.fa 1 (.t 10)) 5 true,.G 12 (.ld none (.t 11)) 5 true,.G 13 (.call (.c (.fn 1054 [])) [.t 12]) 5 true,.V 14 (.pick (.t 8) (.t 13) (.c (.bool false))),.V 15 (.mv (.t 14)),.G 16 (.mv (.t 0)) 12 true,.G 17 (.nilck (.t 16)) 12 true,.G 18 (.fa 2 (.t 17)) 12 true,.G 19 (.ld none (.t 18)) 12 true,.G 20 (.call (.c (.fn 1055 [])) [.t 19]) 12 true,.V 21 (.pick (.t 15) (.t 20) (.c (.bool false))),.V 22 (.mv (.t 21)),.G 23 (.mv (.t 0)) 19 true,.G 24 (.nilck (.t 23)) 19 true,.G 25 (.fa 3 (.t 24)) 19 true,.G 26 (.ld none (.t 25)) 19 true,.G 27 (.call (.c (.fn 1055 [])) [.t 26]) 19 true,.V 28 (.pick (.t 22) (.t 27) (.c (.bool false))),.V 29 (.mv (.t 28)),.G 30 (.mv (.t 0)) 26 true,.G 31 (.nilck (.t 30)) 26 true,.G 32 (.fa 2 (.t 31)) 26 true,.G 33 (.ld none (.t 32)) 26 true,.G 34 (.mv (.t 0)) 26 true,.G 35 (.nilck (.t 34)) 26 true,.G 36 (.fa 1 (.t 35)) 26 true,.G 37 (.ld none (.t 36)) 26 true,.G 38 (.bin .add (.t 33) (.t 37)) 26 true,.G 39 (.bin .sub (.t 38) (.c (.int .i64 1))) 26 true,.G 40 (.mv (.t 0)) 26 true,.G 41 (.nilck (.t 40)) 26 true,.G 42 (.fa 3 (.t 41)) 26 true,.G 43 (.ld none (.t 42)) 26 true,.G 44 (.bin .leq (.t 39) (.t 43)) 26 true,.V 45 (.pick (.t 29) (.t 44) (.c (.bool false))),.V 2 (.asg (.t 45))] [2] []) .ret)) }
noncomputable def Zn6 : List (Nat × Callee) := [(13,Zgz),(1054,Zgw),(1055,Zig)]
def Zxg : List (Nat × ET) := []
noncomputable def Zij : Callee := Zab Zn6 Zxg Zuj [.p T_Peg] [.d (.one .bool)] []
noncomputable def Zhd (a0 : T_Peg.ty) : Option (Bool) := Zij.f (a0,())
theorem Zva (a0 : T_Peg.ty) : Zhd a0 =
 (Zjy a0.1).bind fun x1 =>
  if x1 then
   (Zp1 a0.2.1).bind fun x2 =>
    if x2 then
     (Zl7 a0.2.2.1).bind fun x3 =>
      if x3 then
       (Zl7 a0.2.2.2.1).bind fun x4 =>
        if x4 then
         some (decide (IntKind.i64.wrap ((IntKind.i64.wrap (a0.2.2.1 + a0.2.1)) - 1) ≤ a0.2.2.2.1))
        else
         some false
      else
       some false
    else
     some false
  else
   some false :=
 (mk_f _ _ _ _ _ _ _ 4000).trans (by kernel_rfl)
def Zn3 : C :=
 .seq (.seq (.reg false [.V 4 (.mv (.t 3)),.V 5 (.mv (.t 0)),.V 6 (.len (.t 5)),.V 7 (.bin .lss (.t 4) (.t 6))] [0,3,7] []) (.cond (.t 7) .skip (.exit 0))) (.seq (.block 1 (.seq (.reg true [.V 10 (.mv (.t 0)),.V 11 (.mv (.t 3)),.V 12 (.ia 4 (.t 10) (.t 11)),.V 13 (.call (.c (.fn 976 [])) [.t 12]),.V 14 (.un .not (.t 13)),.V 15 (.mv (.t 14)),.G 16 (.mv (.t 3)) 5 false,.G 17 (.bin .gtr (.t 16) (.c (.int .i64 0))) 5 false,.G 18 (.mv (.t 17)) 5 false,.G 19 (.mv (.t 0)) 8 true,.G 20 (.mv (.t 3)) 8 true,.G 21 (.bin .sub (.t 20) (.c (.int .i64 1))) 8 true,.G 22 (.ia 4 (.t 19) (.t 21)) 8 true,.G 23 (.fa 0 (.t 22)) 8 true,.G 24 (.ld none (.t 23)) 8 true,.G 25 (.mv (.t 0)) 8 true,.G 26 (.mv (.t 3)) 8 true,.G 27 (.ia 4 (.t 25) (.t 26)) 8 true,.G 28 (.fa 0 (.t 27)) 8 true,.G 29 (.ld none (.t 28)) 8 true,.G 30 (.bin .geq (.t 24) (.t 29)) 8 true,.G 31 (.pick (.t 18) (.t 30) (.c (.bool false))) 5 false,.V 32 (.pick (.t 15) (.c (.bool true)) (.t 31))] [0,3,32] []) (.cond (.t 32) (.seq (.reg false [.V 2 (.asg (.c (.bool false)))] [2] []) .ret) .skip))) (.reg false [.V 8 (.mv (.t 3)),.V 9 (.bin .add (.t 8) (.c (.int .i64 1))),.V 3 (.asg (.t 9))] [0,3] []))
def Zn1 : C :=
 .norm [0,3] [] Zn3
def Zoe : C :=
 .seq (.reg false [.V 33 (.mv (.t 0)),.V 34 (.len (.t 33)),.V 35 (.bin .leq (.t 34) (.c (.int .i64 8))),.V 2 (.asg (.t 35))] [2] []) .ret
def Zoa : Fn := { np := 1,io := [],res := [.t 2],own := [false],body :=
 (.seq (.reg false [.V 2 (.asg (.c (.bool false)))] [0] []) (.seq (.seq (.reg false [.V 3 (.asg (.c (.int .i64 0)))] [0,3] []) (.block 0 (.loop Zn1))) Zoe)) }
noncomputable def Zju : List (Nat × Callee) := [(976,Zij)]
def Zp8 : List (Nat × ET) := [(5,T_Peg),(10,T_Peg),(19,T_Peg),(25,T_Peg),(33,T_Peg)]
noncomputable def Zj5 : Callee := Zab Zju Zp8 Zoa [.d (.one (.sl T_Peg))] [.d (.one .bool)] []
noncomputable def Zjl (a0 : List T_Peg.ty) : Option (Bool) := Zj5.f (a0,())
noncomputable def Zc0  (v0 : List T_Peg.ty) (v3 : Int) : Option (Bool) :=
 goL Zju Zp8 (vleave Zoa [.d (.one (.sl T_Peg))] [.d (.one .bool)] [] []) [.c Zn3,.l Zn1,.e 0,.c Zoe]
  ⟨[(0,.sl T_Peg v0),(3,.int .i64 v3)],[]⟩
theorem Zxc (a0 : List T_Peg.ty) : Zjl a0 =
 Zc0 a0 0 :=
 (mk_f _ _ _ _ _ _ _ 4000).trans (by kernel_rfl)
theorem Zrh  (v0 : List T_Peg.ty) (v3 : Int) : Zc0 v0 v3 =
 if decide (v3 < (v0.length : Int)) then
  if decide (0 ≤ v3) then
   (v0[v3.toNat]?).bind fun x1 =>
    (Zhd x1).bind fun x2 =>
     if (!x2) then
      some false
     else
      if decide (v3 > 0) then
       if decide (0 ≤ IntKind.i64.wrap (v3 - 1)) then
        (v0[(IntKind.i64.wrap (v3 - 1)).toNat]?).bind fun x3 =>
         if decide (0 ≤ v3) then
          (v0[v3.toNat]?).bind fun x4 =>
           if (!Op.bytesLess x3.1 x4.1) then
            some false
           else
            Zc0 v0 (IntKind.i64.wrap (v3 + 1))
         else
          none
       else
        none
      else
       Zc0 v0 (IntKind.i64.wrap (v3 + 1))
  else
   none
 else
  some (decide ((v0.length : Int) ≤ 8)) :=
 (goL_dn _ _ _ 4000 _ _).trans (by kernel_rfl)
noncomputable def Zfy : Callee := partsC
noncomputable def Zn9 (a0 : List (List Int)) (a1 : Int) : Option (List (List Int)) := Zfy.f (a0,a1,())
theorem Zj9 (a0 : List (List Int)) (a1 : Int) : Zn9 a0 a1 = partsF a0 a1 := rfl
def Zhy : C :=
 .seq (.seq (.reg false [.V 16 (.mv (.t 5)),.V 17 (.bin .leq (.t 16) (.c (.int .i64 8)))] [0,1,5,17] []) (.cond (.t 17) .skip (.exit 0))) (.seq (.block 1 (.seq (.reg false [.V 20 (.mv (.t 0)),.V 21 (.mv (.t 5)),.V 22 (.call (.c (.fn 788 [])) [.t 20,.t 21]),.W 6 (.asg (.t 22))] [0,1,5,6] [6]) (.seq (.seq (.reg false [.V 23 (.mv (.t 5)),.V 24 (.mv (.t 1)),.V 25 (.len (.t 24)),.V 26 (.bin .gtr (.t 23) (.t 25))] [0,1,5,6,26] [6]) (.cond (.t 26) (.seq (.seq (.reg false [.V 27 (.mv (.t 6)),.V 28 (.len (.t 27)),.V 29 (.bin .gtr (.t 28) (.c (.int .i64 0)))] [0,1,5,29] []) (.cond (.t 29) (.seq (.reg false [.V 4 (.asg (.c (.bool false)))] [4] []) .ret) .skip)) (.exit 1)) .skip)) (.seq (.reg false [.V 30 (.mv (.t 1)),.V 31 (.mv (.t 5)),.V 32 (.bin .sub (.t 31) (.c (.int .i64 1))),.V 33 (.ia 4 (.t 30) (.t 32)),.V 7 (.asg (.t 33))] [0,1,5,6,7] [6]) (.seq (.reg true [.V 34 (.mv (.t 6)),.V 35 (.len (.t 34)),.V 36 (.bin .neq (.t 35) (.c (.int .i64 1))),.V 37 (.mv (.t 36)),.G 38 (.mv (.t 6)) 3 false,.G 39 (.ia 1 (.t 38) (.c (.int .i64 0))) 3 false,.G 40 (.ld none (.t 39)) 3 false,.G 41 (.ia 1 (.t 40) (.c (.int .i64 2))) 3 false,.G 42 (.ld none (.t 41)) 3 false,.G 43 (.mv (.t 7)) 3 false,.G 44 (.nilck (.t 43)) 3 false,.G 45 (.fa 1 (.t 44)) 3 false,.G 46 (.ld none (.t 45)) 3 false,.G 47 (.bin .neq (.t 42) (.t 46)) 3 false,.V 48 (.pick (.t 37) (.c (.bool true)) (.t 47)),.V 49 (.mv (.t 48)),.G 50 (.mv (.t 6)) 15 false,.G 51 (.ia 1 (.t 50) (.c (.int .i64 0))) 15 false,.G 52 (.ld none (.t 51)) 15 false,.G 53 (.ia 1 (.t 52) (.c (.int .i64 1))) 15 false,.G 54 (.ld none (.t 53)) 15 false,.G 55 (.mv (.t 7)) 15 false,.G 56 (.nilck (.t 55)) 15 false,.G 57 (.fa 2 (.t 56)) 15 false,.G 58 (.ld none (.t 57)) 15 false,.G 59 (.bin .lss (.t 54) (.t 58)) 15 false,.V 60 (.pick (.t 49) (.c (.bool true)) (.t 59)),.V 61 (.mv (.t 60)),.G 62 (.mv (.t 6)) 27 false,.G 63 (.ia 1 (.t 62) (.c (.int .i64 0))) 27 false,.G 64 (.ld none (.t 63)) 27 false,.G 65 (.ia 1 (.t 64) (.c (.int .i64 1))) 27 false,.G 66 (.ld none (.t 65)) 27 false,.G 67 (.mv (.t 7)) 27 false,.G 68 (.nilck (.t 67)) 27 false,.G 69 (.fa 1 (.t 68)) 27 false,.G 70 (.ld none (.t 69)) 27 false,.G 71 (.bin .add (.t 66) (.t 70)) 27 false,.G 72 (.bin .sub (.t 71) (.c (.int .i64 1))) 27 false,.G 73 (.mv (.t 7)) 27 false,.G 74 (.nilck (.t 73)) 27 false,.G 75 (.fa 3 (.t 74)) 27 false,.G 76 (.ld none (.t 75)) 27 false,.G 77 (.bin .gtr (.t 72) (.t 76)) 27 false,.V 78 (.pick (.t 61) (.c (.bool true)) (.t 77))] [0,1,5,78] []) (.cond (.t 78) (.seq (.reg false [.V 4 (.asg (.c (.bool false)))] [4] []) .ret) .skip)))))) (.reg false [.V 18 (.mv (.t 5)),.V 19 (.bin .add (.t 18) (.c (.int .i64 1))),.V 5 (.asg (.t 19))] [0,1,5] []))
def Zh4 : C :=
 .norm [0,1,5] [] Zhy
def Zh3 : C :=
 .seq (.reg false [.V 4 (.asg (.c (.bool true)))] [4] []) .ret
def Zia : C :=
 .seq (.seq (.reg false [.V 5 (.asg (.c (.int .i64 1)))] [0,1,5] []) (.block 0 (.loop Zh4))) Zh3
def Zdh : Fn := { np := 2,io := [],res := [.t 4],own := [false],body :=
 (.seq (.reg false [.V 4 (.asg (.c (.bool false)))] [0,1] []) (.seq (.seq (.reg false [.V 8 (.mv (.t 0)),.V 9 (.call (.c (.fn 789 [])) [.t 8]),.V 10 (.un .not (.t 9)),.V 11 (.mv (.t 10)),.G 12 (.mv (.t 1)) 3 false,.G 13 (.call (.c (.fn 790 [])) [.t 12]) 3 false,.G 14 (.un .not (.t 13)) 3 false,.V 15 (.pick (.t 11) (.c (.bool true)) (.t 14))] [0,1,15] []) (.cond (.t 15) (.seq (.reg false [.V 4 (.asg (.c (.bool false)))] [4] []) .ret) .skip)) (.norm [0,1] [] Zia))) }
noncomputable def Zb9 : List (Nat × Callee) := [(788,Zfy),(789,Zgq),(790,Zj5)]
def Zee : List (Nat × ET) := [(6,(.one (.sl (.one (.int .i64))))),(8,(.one (.sl (.one (.int .i64))))),(12,T_Peg),(20,(.one (.sl (.one (.int .i64))))),(22,(.one (.sl (.one (.int .i64))))),(24,T_Peg),(27,(.one (.sl (.one (.int .i64))))),(30,T_Peg),(34,(.one (.sl (.one (.int .i64))))),(38,(.one (.sl (.one (.int .i64))))),(40,(.one (.int .i64))),(50,(.one (.sl (.one (.int .i64))))),(52,(.one (.int .i64))),(62,(.one (.sl (.one (.int .i64))))),(64,(.one (.int .i64)))]
noncomputable def Zeb : Callee := Zab Zb9 Zee Zdh [.d (.one (.sl (.one (.sl (.one (.int .i64)))))),.d (.one (.sl T_Peg))] [.d (.one .bool)] []
noncomputable def Zf5 (a0 : List (List Int)) (a1 : List T_Peg.ty) : Option (Bool) := Zeb.f (a0,a1,())
noncomputable def Zh1  (v0 : List (List Int)) (v1 : List T_Peg.ty) : Option (Bool) :=
 goL Zb9 Zee (vleave Zdh [.d (.one (.sl (.one (.sl (.one (.int .i64)))))),.d (.one (.sl T_Peg))] [.d (.one .bool)] [] []) [.c Zia]
  ⟨[(0,.sl (.one (.sl (.one (.int .i64)))) v0),(1,.sl T_Peg v1)],[]⟩
noncomputable def Za4  (v0 : List (List Int)) (v1 : List T_Peg.ty) (v5 : Int) : Option (Bool) :=
 goL Zb9 Zee (vleave Zdh [.d (.one (.sl (.one (.sl (.one (.int .i64)))))),.d (.one (.sl T_Peg))] [.d (.one .bool)] [] []) [.c Zhy,.l Zh4,.e 0,.c Zh3]
  ⟨[(0,.sl (.one (.sl (.one (.int .i64)))) v0),(1,.sl T_Peg v1),(5,.int .i64 v5)],[]⟩
theorem Zpi (a0 : List (List Int)) (a1 : List T_Peg.ty) : Zf5 a0 a1 =
 (Zpx a0).bind fun x1 =>
  if (!x1) then
   some false
  else
   (Zjl a1).bind fun x2 =>
    if (!x2) then
     some false
    else
     Zh1 a0 a1 :=
 (mk_f _ _ _ _ _ _ _ 4000).trans (by kernel_rfl)
theorem Zm5  (v0 : List (List Int)) (v1 : List T_Peg.ty) : Zh1 v0 v1 =
 Za4 v0 v1 1 :=
 (goL_dn _ _ _ 4000 _ _).trans (by kernel_rfl)
theorem Zcf  (v0 : List (List Int)) (v1 : List T_Peg.ty) (v5 : Int) : Za4 v0 v1 v5 =
 if decide (v5 ≤ 8) then
  (Zn9 v0 v5).bind fun x1 =>
   if decide (v5 > (v1.length : Int)) then
    if decide ((x1.length : Int) > 0) then
     some false
    else
     Za4 v0 v1 (IntKind.i64.wrap (v5 + 1))
   else
    if decide (0 ≤ IntKind.i64.wrap (v5 - 1)) then
     (v1[(IntKind.i64.wrap (v5 - 1)).toNat]?).bind fun x2 =>
      if ((x1.length : Int) != 1) then
       some false
      else
       (x1[0]?).bind fun x3 =>
        (x3[2]?).bind fun x4 =>
         if (x4 != x2.2.1) then
          some false
         else
          (x1[0]?).bind fun x5 =>
           (x5[1]?).bind fun x6 =>
            if decide (x6 < x2.2.2.1) then
             some false
            else
             (x1[0]?).bind fun x7 =>
              (x7[1]?).bind fun x8 =>
               if decide (IntKind.i64.wrap ((IntKind.i64.wrap (x8 + x2.2.1)) - 1) > x2.2.2.2.1) then
                some false
               else
                Za4 v0 v1 (IntKind.i64.wrap (v5 + 1))
    else
     none
 else
  some true :=
 (goL_dn _ _ _ 4000 _ _).trans (by kernel_rfl)
def Zje : Fn := { np := 1,io := [],res := [.t 2,.t 3],own := [true,false],body :=
 (.seq (.reg false [.W 2 (.asg (.c (.nils 4))),.V 3 (.asg (.c (.int .i64 0)))] [0] []) (.seq (.reg false [.V 6 (.mv (.t 0)),.W 7 (.call (.c (.fn 441 [])) [.t 6]),.V 4 (.asg (.t 7))] [4] [7,8000]) (.seq (.reg false [.V 8 (.mv (.t 4)),.W 9 (.call (.c (.fn 784 [])) [.t 8]),.W 5 (.asg (.t 9))] [4,5] [5,7,8000]) (.seq (.reg false [.V 10 (.mv (.t 5)),.V 11 (.mv (.t 4)),.W 12 (.call (.c (.fn 469 [])) [.t 11]),.W 2 (.asg (.t 10)),.V 3 (.asg (.t 12))] [2,3] [2,5]) .ret)))) }
noncomputable def Zdj : List (Nat × Callee) := [(441,Zdz),(469,Zbe),(784,Zdt)]
def Zj8 : List (Nat × ET) := [(2,T_Peg),(5,T_Peg),(6,(.one (.int .u8))),(9,T_Peg),(10,T_Peg)]
noncomputable def Zbm : Callee := Zab Zdj Zj8 Zje [.d (.one (.sl (.one (.int .u8))))] [.tok T_Peg,.d (.one (.int .i64))] []
noncomputable def Zei (a0 : List Int) : Option (List T_Peg.ty × Int) := Zbm.f (a0,())
theorem Zjp (a0 : List Int) : Zei a0 =
 (Zj4 a0).bind fun x1 =>
  (Zga x1).bind fun x2 =>
   (Zbx (x2.2.1,x2.2.2.1,x2.2.2.2.1,())).bind fun x3 =>
    some ((x2.1.take x2.1.length),x3.1) :=
 (mk_f _ _ _ _ _ _ _ 4000).trans (by kernel_rfl)
def Ze9 : C :=
 .seq (.seq (.reg false [.V 9 (.mv (.t 6)),.V 10 (.bin .leq (.t 9) (.c (.int .i64 6)))] [0,1,6,10] []) (.cond (.t 10) .skip (.exit 0))) (.seq (.block 1 (.seq (.reg false [.V 14 (.mv (.t 6)),.V 15 (.mv (.t 0)),.V 16 (.mv (.t 1)),.V 17 (.call (.c (.fn 369 [])) [.t 14,.t 15,.t 16]),.V 13 (.mv (.t 17)),.V 18 (.ext (.t 13) 0),.V 19 (.ext (.t 13) 1),.V 7 (.mv (.t 18)),.V 8 (.asg (.t 19))] [0,1,6,8] []) (.seq (.reg false [.V 20 (.mv (.t 8))] [0,1,6,8,20] []) (.block 2 (.seq (.reg false [.V 23 (.bin .eql (.t 20) (.c (.int .i64 0))),.V 22 (.asg (.t 23))] [0,1,6,8,20,22] []) (.cond (.t 22) (.seq (.reg false [.V 24 (.mv (.t 6)),.V 4 (.asg (.t 24)),.V 5 (.asg (.c (.int .i64 0)))] [4,5] []) .ret) (.seq (.reg false [.V 26 (.bin .eql (.t 20) (.c (.int .i64 3))),.V 25 (.asg (.t 26))] [0,1,6,8,25] []) (.cond (.t 25) .skip (.seq (.reg false [.V 21 (.mv (.t 8)),.V 4 (.asg (.c (.int .i64 0))),.V 5 (.asg (.t 21))] [4,5] []) .ret))))))))) (.reg false [.V 11 (.mv (.t 6)),.V 12 (.bin .add (.t 11) (.c (.int .i64 1))),.V 6 (.asg (.t 12))] [0,1,6] []))
def Zez : C :=
 .norm [0,1,6] [] Ze9
def Zey : C :=
 .seq (.reg false [.V 4 (.asg (.c (.int .i64 0))),.V 5 (.asg (.c (.int .i64 3)))] [4,5] []) .ret
def Zfb : Fn := { np := 2,io := [],res := [.t 4,.t 5],own := [false,false],body :=
 (.seq (.reg false [.V 4 (.asg (.c (.int .i64 0))),.V 5 (.asg (.c (.int .i64 0)))] [0,1] []) (.seq (.seq (.reg false [.V 6 (.asg (.c (.int .i64 1)))] [0,1,6] []) (.block 0 (.loop Zez))) Zey)) }
noncomputable def Zcy : List (Nat × Callee) := [(369,Zb4)]
def Zfo : List (Nat × ET) := [(7,(.one (.sl (.one (.int .i64))))),(15,T_Peg),(18,(.one (.sl (.one (.int .i64)))))]
noncomputable def Zcs : Callee := Zab Zcy Zfo Zfb [.d (.one (.sl T_Peg)),.d (.one (.int .i64))] [.d (.one (.int .i64)),.d (.one (.int .i64))] []
noncomputable def Zhx (a0 : List T_Peg.ty) (a1 : Int) : Option (Int × Int) := Zcs.f (a0,a1,())
noncomputable def Zau  (v0 : List T_Peg.ty) (v1 : Int) (v6 : Int) : Option (Int × Int) :=
 goL Zcy Zfo (vleave Zfb [.d (.one (.sl T_Peg)),.d (.one (.int .i64))] [.d (.one (.int .i64)),.d (.one (.int .i64))] [] []) [.c Ze9,.l Zez,.e 0,.c Zey]
  ⟨[(0,.sl T_Peg v0),(1,.int .i64 v1),(6,.int .i64 v6)],[]⟩
theorem Zmv (a0 : List T_Peg.ty) (a1 : Int) : Zhx a0 a1 =
 Zau a0 a1 1 :=
 (mk_f _ _ _ _ _ _ _ 4000).trans (by kernel_rfl)
theorem Zde  (v0 : List T_Peg.ty) (v1 : Int) (v6 : Int) : Zau v0 v1 v6 =
 if decide (v6 ≤ 6) then
  (Za6 v6 v0 v1).bind fun x1 =>
   if (x1.2 == 0) then
    some (v6,0)
   else
    if (x1.2 == 3) then
     Zau v0 v1 (IntKind.i64.wrap (v6 + 1))
    else
     some (0,x1.2)
 else
  some (0,3) :=
 (goL_dn _ _ _ 4000 _ _).trans (by kernel_rfl)
def Zjb : C :=
 .seq (.reg false [.V 14 (.bin .lss (.t 13) (.t 12))] [4,11,12,13,14] [4]) (.seq (.cond (.t 14) .skip (.exit 0)) (.seq (.block 1 (.seq (.reg false [.V 15 (.ia 4 (.t 11) (.t 13)),.V 16 (.ld (some 4) (.t 15)),.W 6 (.alloc 4 (.agg [.str [],.int .i64 0,.int .i64 0,.int .i64 0])),⟨none,true,.sto 4 (.t 6) (.t 16),none,false,[]⟩] [4,6,11,12,13] [4,6]) (.reg false [.V 17 (.mv (.t 4)),.V 18 (.fa 3 (.t 6)),.V 19 (.ld none (.t 18)),.V 20 (.fa 2 (.t 6)),.V 21 (.ld none (.t 20)),.V 22 (.bin .sub (.t 19) (.t 21)),.V 23 (.bin .add (.t 22) (.c (.int .i64 1))),.V 24 (.fa 1 (.t 6)),.V 25 (.ld none (.t 24)),.V 26 (.bin .sub (.t 23) (.t 25)),.V 27 (.bsl 1 (.int .i64 0) 1 [(0,.t 26)]),.W 28 (.app 1 8 (.t 17) (.t 27)),.W 4 (.asg (.t 28))] [4,11,12,13] [4]))) (.reg false [.V 29 (.bin .add (.t 13) (.c (.int .i64 1))),.V 13 (.mv (.t 29))] [4,11,12,13] [4])))
def Ziz : C :=
 .norm [4,11,12,13] [4] Zjb
def Zi2 : C :=
 .seq (.reg false [.V 30 (.mv (.t 4)),.W 2 (.asg (.t 30)),.V 3 (.asg (.c (.int .i64 0)))] [2,3] [2,4]) .ret
def Zi3 : Fn := { np := 1,io := [],res := [.t 2,.t 3],own := [true,false],body :=
 (.seq (.reg false [.W 2 (.asg (.c (.nils 1))),.V 3 (.asg (.c (.int .i64 0)))] [0] []) (.seq (.seq (.reg false [.V 7 (.mv (.t 0)),.V 8 (.call (.c (.fn 715 [])) [.t 7]),.V 9 (.un .not (.t 8))] [0,9] []) (.cond (.t 9) (.seq (.reg false [.W 2 (.asg (.c (.nils 1))),.V 3 (.asg (.c (.int .i64 1)))] [2,3] [2,4]) .ret) .skip)) (.seq (.reg false [.V 10 (.bsl 1 (.int .i64 0) 0 []),.W 4 (.asg (.t 10))] [0,4] [4]) (.seq (.seq (.reg false [.V 11 (.mv (.t 0)),.V 12 (.len (.t 11)),.V 13 (.mv (.c (.int .i64 0)))] [4,11,12,13] [4]) (.block 0 (.loop Ziz))) Zi2)))) }
noncomputable def Zeq : List (Nat × Callee) := [(715,Zb7)]
def Zkm : List (Nat × ET) := [(2,(.one (.int .i64))),(4,(.one (.int .i64))),(7,T_Peg),(10,(.one (.int .i64))),(11,T_Peg),(17,(.one (.int .i64))),(27,(.one (.int .i64))),(28,(.one (.int .i64))),(30,(.one (.int .i64)))]
noncomputable def Zes : Callee := Zab Zeq Zkm Zi3 [.d (.one (.sl T_Peg))] [.tok (.one (.int .i64)),.d (.one (.int .i64))] []
noncomputable def Zmf (a0 : List T_Peg.ty) : Option (List Int × Int) := Zes.f (a0,())
noncomputable def Zbc  (v11 : List T_Peg.ty) (v12 : Int) (v13 : Int) (r4 : List Int) : Option (List Int × Int) :=
 goL Zeq Zkm (vleave Zi3 [.d (.one (.sl T_Peg))] [.tok (.one (.int .i64)),.d (.one (.int .i64))] [] []) [.c Zjb,.l Ziz,.e 0,.c Zi2]
  ⟨[(4,.view 4 0 r4.length),(11,.sl T_Peg v11),(12,.int .i64 v12),(13,.int .i64 v13)],[(4,some (.sl (.one (.int .i64)) r4))]⟩
theorem Zqx (a0 : List T_Peg.ty) : Zmf a0 =
 (Zax a0).bind fun x1 =>
  if (!x1) then
   some ([],1)
  else
   Zbc a0 (a0.length : Int) 0 [] :=
 (mk_f _ _ _ _ _ _ _ 4000).trans (by kernel_rfl)
theorem Zf2  (v11 : List T_Peg.ty) (v12 : Int) (v13 : Int) (r4 : List Int) : Zbc v11 v12 v13 r4 =
 if decide (v13 < v12) then
  if decide (0 ≤ v13) then
   (v11[v13.toNat]?).bind fun x1 =>
    if decide (r4.length + 1 < lim) then
     Zbc v11 v12 (IntKind.i64.wrap (v13 + 1)) ((r4.take r4.length) ++ [IntKind.i64.wrap ((IntKind.i64.wrap ((IntKind.i64.wrap (x1.2.2.2.1 - x1.2.2.1)) + 1)) - x1.2.1)])
    else
     none
  else
   none
 else
  some ((r4.take r4.length),0) :=
 (goL_dn _ _ _ 4000 _ _).trans (by kernel_rfl)
noncomputable def Zc3 : Callee := Zsz
noncomputable def Ziy (a0 : Int) (a1 : Int) : Option (List UInt8) := Zc3.f (a0,a1,())
theorem Zna (a0 : Int) (a1 : Int) : Ziy a0 a1 = if decide (a1 = 10) && (decide (-9223372036854775808 ≤ a0) && decide (a0 ≤ 9223372036854775807)) then some (Lib.itoa a0) else none := rfl
def Zt4 : Fn := { np := 1,io := [],res := [.t 2],own := [false],body :=
 (.seq (.reg false [.V 2 (.asg (.c (.str [])))] [0] []) (.seq (.reg false [.V 3 (.mv (.t 0)),.V 4 (.call (.c (.fn 864 [])) [.t 3,.c (.int .i64 10)]),.V 2 (.asg (.t 4))] [2] []) .ret)) }
noncomputable def Zmp : List (Nat × Callee) := [(864,Zc3)]
def Zu9 : List (Nat × ET) := []
noncomputable def Zgo : Callee := Zab Zmp Zu9 Zt4 [.d (.one (.int .i64))] [.d (.one .str)] []
noncomputable def Zj7 (a0 : Int) : Option (List UInt8) := Zgo.f (a0,())
theorem Zs5 (a0 : Int) : Zj7 a0 =
 (Ziy a0 10).bind fun x1 =>
  some x1 :=
 (mk_f _ _ _ _ _ _ _ 4000).trans (by kernel_rfl)
noncomputable def Zgs : Callee := joinC
noncomputable def strings_Join (a0 : List (List UInt8)) (a1 : List UInt8) : Option (List UInt8) := Zgs.f (a0,a1,())
theorem Ztl (a0 : List (List UInt8)) (a1 : List UInt8) : strings_Join a0 a1 = if decide (a0.length ≤ 140737488355328) && decide ((Lib.join a0 a1).length ≤ 140737488355328) then some (Lib.join a0 a1) else none := rfl
def Zkj : C :=
 .seq (.reg false [.V 17 (.bin .lss (.t 16) (.t 15))] [3,14,15,16,17] [3]) (.seq (.cond (.t 17) .skip (.exit 0)) (.seq (.block 1 (.seq (.reg false [.V 18 (.ia 1 (.t 14) (.t 16)),.V 19 (.ld none (.t 18)),.V 5 (.asg (.t 19))] [3,5,14,15,16] [3]) (.seq (.seq (.reg false [.V 20 (.mv (.t 5)),.V 21 (.call (.c (.fn 23 [])) [.t 20,.c (.int .i64 (-1000000000000)),.c (.int .i64 1000000000000)]),.V 22 (.un .not (.t 21))] [3,5,14,15,16,22] [3]) (.cond (.t 22) (.seq (.reg false [.V 2 (.asg (.c (.str [])))] [2] []) .ret) .skip)) (.reg false [.V 23 (.mv (.t 3)),.V 24 (.mv (.t 5)),.V 25 (.call (.c (.fn 524 [])) [.t 24]),.V 26 (.bsl 1 (.str []) 1 [(0,.t 25)]),.W 27 (.app 1 16 (.t 23) (.t 26)),.W 3 (.asg (.t 27))] [3,14,15,16] [3])))) (.reg false [.V 28 (.bin .add (.t 16) (.c (.int .i64 1))),.V 16 (.mv (.t 28))] [3,14,15,16] [3])))
def Zkk : C :=
 .norm [3,14,15,16] [3] Zkj
def Zj3 : C :=
 .seq (.reg false [.V 29 (.mv (.t 3)),.V 30 (.call (.c (.fn 630 [])) [.t 29,.c (.str [44])]),.V 2 (.asg (.t 30))] [2] []) .ret
def Zkb : Fn := { np := 1,io := [],res := [.t 2],own := [false],body :=
 (.seq (.reg false [.V 2 (.asg (.c (.str [])))] [0] []) (.seq (.seq (.reg false [.V 6 (.mv (.t 0)),.V 7 (.len (.t 6)),.V 8 (.call (.c (.fn 21 [])) [.t 7,.c (.int .i64 64)]),.V 9 (.un .not (.t 8))] [0,9] []) (.cond (.t 9) (.seq (.reg false [.V 2 (.asg (.c (.str [])))] [2] []) .ret) .skip)) (.seq (.seq (.reg false [.V 10 (.mv (.t 0)),.V 11 (.len (.t 10)),.V 12 (.bin .eql (.t 11) (.c (.int .i64 0)))] [0,12] []) (.cond (.t 12) (.seq (.reg false [.V 2 (.asg (.c (.str [45])))] [2] []) .ret) .skip)) (.seq (.reg false [.V 13 (.bsl 1 (.str []) 0 []),.W 3 (.asg (.t 13))] [0,3] [3]) (.seq (.seq (.reg false [.V 14 (.mv (.t 0)),.V 15 (.len (.t 14)),.V 16 (.mv (.c (.int .i64 0)))] [3,14,15,16] [3]) (.block 0 (.loop Zkk))) Zj3))))) }
noncomputable def Zfl : List (Nat × Callee) := [(21,Zfh),(23,Zba),(524,Zgo),(630,Zgs)]
def Zk3 : List (Nat × ET) := [(3,(.one .str)),(6,(.one (.int .i64))),(10,(.one (.int .i64))),(13,(.one .str)),(14,(.one (.int .i64))),(23,(.one .str)),(26,(.one .str)),(27,(.one .str)),(29,(.one .str))]
noncomputable def Zfm : Callee := Zab Zfl Zk3 Zkb [.d (.one (.sl (.one (.int .i64))))] [.d (.one .str)] []
noncomputable def Zin (a0 : List Int) : Option (List UInt8) := Zfm.f (a0,())
noncomputable def Zcp  (v14 : List Int) (v15 : Int) (v16 : Int) (r3 : List (List UInt8)) : Option (List UInt8) :=
 goL Zfl Zk3 (vleave Zkb [.d (.one (.sl (.one (.int .i64))))] [.d (.one .str)] [] []) [.c Zkj,.l Zkk,.e 0,.c Zj3]
  ⟨[(3,.view 3 0 r3.length),(14,.sl (.one (.int .i64)) v14),(15,.int .i64 v15),(16,.int .i64 v16)],[(3,some (.sl (.one .str) r3))]⟩
theorem Zrz (a0 : List Int) : Zin a0 =
 (Zki (a0.length : Int) 64).bind fun x1 =>
  if (!x1) then
   some []
  else
   if ((a0.length : Int) == 0) then
    some [45]
   else
    Zcp a0 (a0.length : Int) 0 [] :=
 (mk_f _ _ _ _ _ _ _ 4000).trans (by kernel_rfl)
theorem Zgi  (v14 : List Int) (v15 : Int) (v16 : Int) (r3 : List (List UInt8)) : Zcp v14 v15 v16 r3 =
 if decide (v16 < v15) then
  if decide (0 ≤ v16) then
   (v14[v16.toNat]?).bind fun x1 =>
    (Zbg x1 (-1000000000000) 1000000000000).bind fun x2 =>
     if (!x2) then
      some []
     else
      (Zj7 x1).bind fun x3 =>
       if decide (r3.length + 1 < lim) then
        Zcp v14 v15 (IntKind.i64.wrap (v16 + 1)) ((r3.take r3.length) ++ [x3])
       else
        none
  else
   none
 else
  (strings_Join (r3.take r3.length) [44]).bind fun x4 =>
   some x4 :=
 (goL_dn _ _ _ 4000 _ _).trans (by kernel_rfl)
def Zxb : Fn := { np := 2,io := [],res := [.t 4],own := [false],body :=
 (.seq (.reg false [.V 4 (.asg (.c (.str [])))] [0,1] []) (.seq (.reg false [.V 5 (.mv (.t 0)),.V 6 (.bin .add (.t 5) (.c (.str [32]))),.V 7 (.mv (.t 1)),.V 8 (.call (.c (.fn 460 [])) [.t 7]),.V 9 (.bin .add (.t 6) (.t 8)),.V 4 (.asg (.t 9))] [4] []) .ret)) }
noncomputable def Zpp : List (Nat × Callee) := [(460,Zfm)]
def Zzl : List (Nat × ET) := [(7,(.one (.int .i64)))]
noncomputable def Zj6 : Callee := Zab Zpp Zzl Zxb [.d (.one .str),.d (.one (.sl (.one (.int .i64))))] [.d (.one .str)] []
noncomputable def Znk (a0 : List UInt8) (a1 : List Int) : Option (List UInt8) := Zj6.f (a0,a1,())
theorem Zxf (a0 : List UInt8) (a1 : List Int) : Znk a0 a1 =
 if decide (a0.length + [32].length ≤ strMax) then
  (Zin a1).bind fun x1 =>
   if decide ((a0 ++ [32]).length + x1.length ≤ strMax) then
    some ((a0 ++ [32]) ++ x1)
   else
    none
 else
  none :=
 (mk_f _ _ _ _ _ _ _ 4000).trans (by kernel_rfl)
def Zrl : Fn := { np := 1,io := [],res := [.t 2],own := [false],body :=
 (.seq (.reg false [.W 1 (.box 4 (.t 0)),.V 2 (.asg (.c (.str [])))] [1] [1]) (.seq (.seq (.reg false [.V 3 (.ld (some 4) (.t 1)),.V 4 (.call (.c (.fn 791 [])) [.t 3]),.V 5 (.un .not (.t 4))] [1,5] [1]) (.cond (.t 5) (.seq (.reg false [.V 2 (.asg (.c (.str [])))] [2] []) .ret) .skip)) (.seq (.reg false [.V 6 (.fa 0 (.t 1)),.V 7 (.ld none (.t 6)),.V 8 (.fa 1 (.t 1)),.V 9 (.ld none (.t 8)),.V 10 (.fa 2 (.t 1)),.V 11 (.ld none (.t 10)),.V 12 (.fa 3 (.t 1)),.V 13 (.ld none (.t 12)),.V 14 (.bsl 1 (.int .i64 0) 3 [(0,.t 9),(1,.t 11),(2,.t 13)]),.V 15 (.call (.c (.fn 459 [])) [.t 7,.t 14]),.V 2 (.asg (.t 15))] [2] []) .ret))) }
noncomputable def Zlu : List (Nat × Callee) := [(459,Zj6),(791,Zbb)]
def Zsv : List (Nat × ET) := [(14,(.one (.int .i64)))]
noncomputable def Zfc : Callee := Zab Zlu Zsv Zrl [.d T_Peg] [.d (.one .str)] []
noncomputable def Zil (a0 : T_Peg.ty) : Option (List UInt8) := Zfc.f (a0,())
theorem Zr2 (a0 : T_Peg.ty) : Zil a0 =
 (Zaw a0).bind fun x1 =>
  if (!x1) then
   some []
  else
   (Znk a0.1 [a0.2.1,a0.2.2.1,a0.2.2.2.1]).bind fun x2 =>
    some x2 :=
 (mk_f _ _ _ _ _ _ _ 4000).trans (by kernel_rfl)
noncomputable def Zis : Callee := cutC
noncomputable def strings_Cut (a0 : List UInt8) (a1 : List UInt8) : Option (List UInt8 × List UInt8 × Bool) := Zis.f (a0,a1,())
theorem Zum (a0 : List UInt8) (a1 : List UInt8) : strings_Cut a0 a1 = if decide (a0.length < 4294967281) then some (Lib.cut a0 a1) else none := rfl
noncomputable def Zf3 : Callee := splitC
noncomputable def strings_Split (a0 : List UInt8) (a1 : List UInt8) : Option (List (List UInt8)) := Zf3.f (a0,a1,())
theorem Zr4 (a0 : List UInt8) (a1 : List UInt8) : strings_Split a0 a1 = if decide (a0.length < 4294967281) && decide (1 ≤ a1.length) then some (Lib.splitK a1 0 (Lib.count a0 a1) a0) else none := rfl
noncomputable def Zdd : Callee := Zyh
noncomputable def Zew (a0 : List UInt8) : Option (Int × Bool) := Zdd.f (a0,())
theorem Zoh (a0 : List UInt8) : Zew a0 = some (Zcu a0) := rfl
def Zj2 : C :=
 .seq (.reg false [.V 16 (.bin .lss (.t 15) (.t 14))] [4,13,14,15,16] [4]) (.seq (.cond (.t 16) .skip (.exit 0)) (.seq (.block 1 (.seq (.reg false [.V 17 (.ia 1 (.t 13) (.t 15)),.V 18 (.ld none (.t 17)),.V 6 (.asg (.t 18))] [4,6,13,14,15] [4]) (.seq (.reg false [.V 20 (.mv (.t 6)),.V 21 (.call (.c (.fn 522 [])) [.t 20]),.V 19 (.mv (.t 21)),.V 22 (.ext (.t 19) 0),.V 23 (.ext (.t 19) 1),.V 7 (.asg (.t 22)),.V 8 (.asg (.t 23))] [4,7,8,13,14,15] [4]) (.seq (.seq (.reg false [.V 24 (.mv (.t 8)),.V 25 (.un .not (.t 24)),.V 26 (.mv (.t 25)),.G 27 (.mv (.t 7)) 2 false,.G 28 (.call (.c (.fn 23 [])) [.t 27,.c (.int .i64 (-1000000000000)),.c (.int .i64 1000000000000)]) 2 false,.G 29 (.un .not (.t 28)) 2 false,.V 30 (.pick (.t 26) (.c (.bool true)) (.t 29)),.V 31 (.mv (.t 30)),.G 32 (.mv (.t 4)) 7 false,.G 33 (.len (.t 32)) 7 false,.G 34 (.bin .eql (.t 33) (.c (.int .i64 64))) 7 false,.V 35 (.pick (.t 31) (.c (.bool true)) (.t 34))] [4,7,13,14,15,35] [4]) (.cond (.t 35) (.seq (.reg false [.W 2 (.asg (.c (.nils 1))),.V 3 (.asg (.c (.bool false)))] [2,3] [2,4]) .ret) .skip)) (.reg false [.V 36 (.mv (.t 4)),.V 37 (.mv (.t 7)),.V 38 (.bsl 1 (.int .i64 0) 1 [(0,.t 37)]),.W 39 (.app 1 8 (.t 36) (.t 38)),.W 4 (.asg (.t 39))] [4,13,14,15] [4]))))) (.reg false [.V 40 (.bin .add (.t 15) (.c (.int .i64 1))),.V 15 (.mv (.t 40))] [4,13,14,15] [4])))
def Zkg : C :=
 .norm [4,13,14,15] [4] Zj2
def Zkf : C :=
 .seq (.reg false [.V 41 (.mv (.t 4)),.W 2 (.asg (.t 41)),.V 3 (.asg (.c (.bool true)))] [2,3] [2,4]) .ret
def Zj0 : Fn := { np := 1,io := [],res := [.t 2,.t 3],own := [true,false],body :=
 (.seq (.reg false [.W 2 (.asg (.c (.nils 1))),.V 3 (.asg (.c (.bool false)))] [0] []) (.seq (.seq (.reg false [.V 9 (.mv (.t 0)),.V 10 (.bin .eql (.t 9) (.c (.str [45])))] [0,10] []) (.cond (.t 10) (.seq (.reg false [.W 2 (.asg (.c (.nils 1))),.V 3 (.asg (.c (.bool true)))] [2,3] [2,4]) .ret) .skip)) (.seq (.reg false [.V 11 (.bsl 1 (.int .i64 0) 0 []),.W 4 (.asg (.t 11))] [0,4] [4]) (.seq (.seq (.reg false [.V 12 (.mv (.t 0)),.V 13 (.call (.c (.fn 683 [])) [.t 12,.c (.str [44])]),.V 14 (.len (.t 13)),.V 15 (.mv (.c (.int .i64 0)))] [4,13,14,15] [4]) (.block 0 (.loop Zkg))) Zkf)))) }
noncomputable def Zfj : List (Nat × Callee) := [(23,Zba),(522,Zdd),(683,Zf3)]
def Zli : List (Nat × ET) := [(2,(.one (.int .i64))),(4,(.one (.int .i64))),(11,(.one (.int .i64))),(13,(.one .str)),(32,(.one (.int .i64))),(36,(.one (.int .i64))),(38,(.one (.int .i64))),(39,(.one (.int .i64))),(41,(.one (.int .i64)))]
noncomputable def Zf0 : Callee := Zab Zfj Zli Zj0 [.d (.one .str)] [.tok (.one (.int .i64)),.d (.one .bool)] []
noncomputable def Zif (a0 : List UInt8) : Option (List Int × Bool) := Zf0.f (a0,())
noncomputable def Zcq  (v13 : List (List UInt8)) (v14 : Int) (v15 : Int) (r4 : List Int) : Option (List Int × Bool) :=
 goL Zfj Zli (vleave Zj0 [.d (.one .str)] [.tok (.one (.int .i64)),.d (.one .bool)] [] []) [.c Zj2,.l Zkg,.e 0,.c Zkf]
  ⟨[(4,.view 4 0 r4.length),(13,.sl (.one .str) v13),(14,.int .i64 v14),(15,.int .i64 v15)],[(4,some (.sl (.one (.int .i64)) r4))]⟩
theorem Zri (a0 : List UInt8) : Zif a0 =
 if (a0 == [45]) then
  some ([],true)
 else
  (strings_Split a0 [44]).bind fun x1 =>
   Zcq x1 (x1.length : Int) 0 [] :=
 (mk_f _ _ _ _ _ _ _ 4000).trans (by kernel_rfl)
theorem Zge  (v13 : List (List UInt8)) (v14 : Int) (v15 : Int) (r4 : List Int) : Zcq v13 v14 v15 r4 =
 if decide (v15 < v14) then
  if decide (0 ≤ v15) then
   (v13[v15.toNat]?).bind fun x1 =>
    (Zew x1).bind fun x2 =>
     if (!x2.2) then
      some ([],false)
     else
      (Zbg x2.1 (-1000000000000) 1000000000000).bind fun x3 =>
       if (!x3) then
        some ([],false)
       else
        if ((r4.length : Int) == 64) then
         some ([],false)
        else
         if decide (r4.length + 1 < lim) then
          Zcq v13 v14 (IntKind.i64.wrap (v15 + 1)) ((r4.take r4.length) ++ [x2.1])
         else
          none
  else
   none
 else
  some ((r4.take r4.length),true) :=
 (goL_dn _ _ _ 4000 _ _).trans (by kernel_rfl)
def Zqo : Fn := { np := 2,io := [],res := [.t 4,.t 5,.t 6],own := [false,true,false],body :=
 (.seq (.reg false [.V 4 (.asg (.c (.str []))),.W 5 (.asg (.c (.nils 1))),.V 6 (.asg (.c (.bool false)))] [0,1] []) (.seq (.reg false [.V 13 (.mv (.t 0)),.V 14 (.call (.c (.fn 523 [])) [.t 13,.c (.str [32])]),.V 12 (.mv (.t 14)),.V 15 (.ext (.t 12) 0),.V 16 (.ext (.t 12) 1),.V 17 (.ext (.t 12) 2),.V 7 (.asg (.t 15)),.V 8 (.asg (.t 16)),.V 9 (.asg (.t 17))] [1,7,8,9] []) (.seq (.reg false [.V 19 (.mv (.t 8)),.V 20 (.call (.c (.fn 457 [])) [.t 19]),.V 18 (.mv (.t 20)),.V 21 (.ext (.t 18) 0),.V 22 (.ext (.t 18) 1),.W 10 (.asg (.t 21)),.V 11 (.asg (.t 22))] [1,7,9,10,11] [10]) (.seq (.reg false [.V 23 (.mv (.t 7)),.V 24 (.mv (.t 10)),.V 25 (.mv (.t 9)),.V 26 (.mv (.t 25)),.G 27 (.mv (.t 11)) 3 true,.V 28 (.pick (.t 26) (.t 27) (.c (.bool false))),.V 29 (.mv (.t 28)),.G 30 (.mv (.t 10)) 6 true,.G 31 (.len (.t 30)) 6 true,.G 32 (.mv (.t 1)) 6 true,.G 33 (.bin .eql (.t 31) (.t 32)) 6 true,.V 34 (.pick (.t 29) (.t 33) (.c (.bool false))),.V 4 (.asg (.t 23)),.W 5 (.asg (.t 24)),.V 6 (.asg (.t 34))] [4,5,6] [5,10]) .ret)))) }
noncomputable def Zjz : List (Nat × Callee) := [(457,Zf0),(523,Zis)]
def Zrj : List (Nat × ET) := [(5,(.one (.int .i64))),(10,(.one (.int .i64))),(21,(.one (.int .i64))),(24,(.one (.int .i64))),(30,(.one (.int .i64)))]
noncomputable def Zev : Callee := Zab Zjz Zrj Zqo [.d (.one .str),.d (.one (.int .i64))] [.d (.one .str),.tok (.one (.int .i64)),.d (.one .bool)] []
noncomputable def Zha (a0 : List UInt8) (a1 : Int) : Option (List UInt8 × List Int × Bool) := Zev.f (a0,a1,())
theorem Zqy (a0 : List UInt8) (a1 : Int) : Zha a0 a1 =
 (strings_Cut a0 [32]).bind fun x1 =>
  (Zif x1.2.1).bind fun x2 =>
   if x1.2.2 then
    if x2.2 then
     some (x1.1,(x2.1.take x2.1.length),((x2.1.length : Int) == a1))
    else
     some (x1.1,(x2.1.take x2.1.length),false)
   else
    some (x1.1,(x2.1.take x2.1.length),false) :=
 (mk_f _ _ _ _ _ _ _ 4000).trans (by kernel_rfl)
def Zr7 : Fn := { np := 1,io := [],res := [.cell 2 (some 4),.t 3],own := [false,false],body :=
 (.seq (.reg false [.W 2 (.alloc 4 (.agg [.str [],.int .i64 0,.int .i64 0,.int .i64 0])),.V 3 (.asg (.c (.bool false)))] [0,2] [2]) (.seq (.reg false [.V 9 (.mv (.t 0)),.V 10 (.call (.c (.fn 747 [])) [.t 9,.c (.int .i64 3)]),.V 8 (.mv (.t 10)),.V 11 (.ext (.t 8) 0),.V 12 (.ext (.t 8) 1),.V 13 (.ext (.t 8) 2),.V 4 (.asg (.t 11)),.W 5 (.asg (.t 12)),.V 6 (.asg (.t 13))] [2,4,5,6] [2,5]) (.seq (.seq (.reg false [.V 14 (.mv (.t 6)),.V 15 (.un .not (.t 14))] [2,4,5,15] [2,5]) (.cond (.t 15) (.seq (.reg false [.V 16 (.build [.str [],.int .i64 0,.int .i64 0,.int .i64 0] []),⟨none,true,.sto 4 (.t 2) (.t 16),none,false,[]⟩,.V 3 (.asg (.c (.bool false)))] [2,3] [2]) .ret) .skip)) (.seq (.reg true [⟨some 17,false,.mv (.t 4),none,false,[7]⟩,⟨some 18,false,.mv (.t 5),none,false,[7]⟩,⟨some 19,false,.ia 1 (.t 18) (.c (.int .i64 0)),none,false,[7]⟩,⟨some 20,false,.ld none (.t 19),none,false,[7]⟩,⟨some 21,false,.mv (.t 5),none,false,[7]⟩,⟨some 22,false,.ia 1 (.t 21) (.c (.int .i64 1)),none,false,[7]⟩,⟨some 23,false,.ld none (.t 22),none,false,[7]⟩,⟨some 24,false,.mv (.t 5),none,false,[7]⟩,⟨some 25,false,.ia 1 (.t 24) (.c (.int .i64 2)),none,false,[7]⟩,⟨some 26,false,.ld none (.t 25),none,false,[7]⟩,⟨some 27,false,.build [.str [],.int .i64 0,.int .i64 0,.int .i64 0] [(0,1,.t 17),(1,1,.t 20),(2,1,.t 23),(3,1,.t 26)],none,false,[7]⟩,.W 7 (.alloc 4 (.agg [.str [],.int .i64 0,.int .i64 0,.int .i64 0])),⟨none,true,.sto 4 (.t 7) (.t 27),none,false,[]⟩] [2,7] [2,7]) (.seq (.seq (.reg false [.V 28 (.ld (some 4) (.t 7)),.V 29 (.call (.c (.fn 791 [])) [.t 28]),.V 30 (.un .not (.t 29))] [2,7,30] [2,7]) (.cond (.t 30) (.seq (.reg false [.V 31 (.build [.str [],.int .i64 0,.int .i64 0,.int .i64 0] []),⟨none,true,.sto 4 (.t 2) (.t 31),none,false,[]⟩,.V 3 (.asg (.c (.bool false)))] [2,3] [2]) .ret) .skip)) (.seq (.reg false [.V 32 (.ld (some 4) (.t 7)),⟨none,true,.sto 4 (.t 2) (.t 32),none,false,[]⟩,.V 3 (.asg (.c (.bool true)))] [2,3] [2]) .ret)))))) }
noncomputable def Zks : List (Nat × Callee) := [(747,Zev),(791,Zbb)]
def Zs0 : List (Nat × ET) := [(5,(.one (.int .i64))),(12,(.one (.int .i64))),(18,(.one (.int .i64))),(21,(.one (.int .i64))),(24,(.one (.int .i64)))]
noncomputable def Zfr : Callee := Zab Zks Zs0 Zr7 [.d (.one .str)] [.d T_Peg,.d (.one .bool)] []
noncomputable def Zii (a0 : List UInt8) : Option (T_Peg.ty × Bool) := Zfr.f (a0,())
theorem Zr3 (a0 : List UInt8) : Zii a0 =
 (Zha a0 3).bind fun x1 =>
  if (!x1.2.2) then
   some (([],0,0,0,()),false)
  else
   if decide (0 < (x1.2.1.length : Int)) then
    (x1.2.1[0]?).bind fun x2 =>
     if decide (1 < (x1.2.1.length : Int)) then
      (x1.2.1[1]?).bind fun x3 =>
       if decide (2 < (x1.2.1.length : Int)) then
        (x1.2.1[2]?).bind fun x4 =>
         (Zaw (x1.1,x2,x3,x4,())).bind fun x5 =>
          if (!x5) then
           some (([],0,0,0,()),false)
          else
           some ((x1.1,x2,x3,x4,()),true)
       else
        none
     else
      none
   else
    none :=
 (mk_f _ _ _ _ _ _ _ 4000).trans (by kernel_rfl)
def Zk4 : C :=
 .seq (.seq (.reg false [.V 122 (.mv (.t 20)),.V 123 (.mv (.t 10)),.V 124 (.len (.t 123)),.V 125 (.bin .lss (.t 122) (.t 124))] [10,18,20,125] [10,18]) (.cond (.t 125) .skip (.exit 0))) (.seq (.block 1 (.seq (.reg false [.V 129 (.mv (.t 10)),.V 130 (.mv (.t 20)),.V 131 (.ia 4 (.t 129) (.t 130)),.V 132 (.ld (some 4) (.t 131)),.V 133 (.call (.c (.fn 366 [])) [.t 132]),.V 134 (.call (.c (.fn 367 [])) [.t 133]),.V 128 (.mv (.t 134)),.V 135 (.ext (.t 128) 0),.V 136 (.ext (.t 128) 1),.W 21 (.alloc 4 (.agg [.str [],.int .i64 0,.int .i64 0,.int .i64 0])),⟨none,true,.sto 4 (.t 21) (.t 135),none,false,[]⟩,.V 22 (.asg (.t 136))] [10,18,20,21,22] [10,18,21]) (.seq (.reg true [.V 137 (.mv (.t 18)),.V 138 (.mv (.t 20)),.V 139 (.ia 1 (.t 137) (.t 138)),.V 140 (.ld none (.t 139)),.V 141 (.bin .lss (.t 140) (.c (.int .i64 0))),.V 142 (.mv (.t 141)),.G 143 (.mv (.t 10)) 5 false,.G 144 (.mv (.t 20)) 5 false,.G 145 (.ia 4 (.t 143) (.t 144)) 5 false,.G 146 (.fa 2 (.t 145)) 5 false,.G 147 (.ld none (.t 146)) 5 false,.G 148 (.mv (.t 10)) 5 false,.G 149 (.mv (.t 20)) 5 false,.G 150 (.ia 4 (.t 148) (.t 149)) 5 false,.G 151 (.fa 1 (.t 150)) 5 false,.G 152 (.ld none (.t 151)) 5 false,.G 153 (.bin .add (.t 147) (.t 152)) 5 false,.G 154 (.mv (.t 18)) 5 false,.G 155 (.mv (.t 20)) 5 false,.G 156 (.ia 1 (.t 154) (.t 155)) 5 false,.G 157 (.ld none (.t 156)) 5 false,.G 158 (.bin .add (.t 153) (.t 157)) 5 false,.G 159 (.mv (.t 10)) 5 false,.G 160 (.mv (.t 20)) 5 false,.G 161 (.ia 4 (.t 159) (.t 160)) 5 false,.G 162 (.fa 3 (.t 161)) 5 false,.G 163 (.ld none (.t 162)) 5 false,.G 164 (.bin .add (.t 163) (.c (.int .i64 1))) 5 false,.G 165 (.bin .neq (.t 158) (.t 164)) 5 false,.V 166 (.pick (.t 142) (.c (.bool true)) (.t 165)),.V 167 (.mv (.t 166)),.G 168 (.mv (.t 22)) 30 false,.G 169 (.un .not (.t 168)) 30 false,.V 170 (.pick (.t 167) (.c (.bool true)) (.t 169)),.V 171 (.mv (.t 170)),.G 172 (.ld (some 4) (.t 21)) 34 false,.G 173 (.mv (.t 10)) 34 false,.G 174 (.mv (.t 20)) 34 false,.G 175 (.ia 4 (.t 173) (.t 174)) 34 false,.G 176 (.ld (some 4) (.t 175)) 34 false,.G 177 (.eqs true [.s,.i,.i,.i] (.t 172) (.t 176)) 34 false,.V 178 (.pick (.t 171) (.c (.bool true)) (.t 177))] [10,18,20,178] [10,18]) (.cond (.t 178) (.seq (.reg false [.V 4 (.asg (.c (.bool false)))] [4] []) .ret) .skip)))) (.reg false [.V 126 (.mv (.t 20)),.V 127 (.bin .add (.t 126) (.c (.int .i64 1))),.V 20 (.asg (.t 127))] [10,18,20] [10,18]))
def Zk0 : C :=
 .norm [10,18,20] [10,18] Zk4
def Zln : C :=
 .seq (.reg false [.V 4 (.asg (.c (.bool true)))] [4] []) .ret
def Zls : C :=
 .seq (.reg false [.V 108 (.mv (.t 10)),.V 109 (.call (.c (.fn 368 [])) [.t 108]),.V 107 (.mv (.t 109)),.V 110 (.ext (.t 107) 0),.V 111 (.ext (.t 107) 1),.W 18 (.asg (.t 110)),.V 19 (.asg (.t 111))] [10,18,19] [10,18]) (.seq (.seq (.reg false [.V 112 (.mv (.t 19)),.V 113 (.bin .neq (.t 112) (.c (.int .i64 0)))] [10,18,113] [10,18]) (.cond (.t 113) (.seq (.reg false [.V 114 (.mv (.t 18)),.V 115 (.len (.t 114)),.V 116 (.bin .eql (.t 115) (.c (.int .i64 0))),.V 4 (.asg (.t 116))] [4] []) .ret) .skip)) (.seq (.seq (.reg false [.V 117 (.mv (.t 18)),.V 118 (.len (.t 117)),.V 119 (.mv (.t 10)),.V 120 (.len (.t 119)),.V 121 (.bin .neq (.t 118) (.t 120))] [10,18,121] [10,18]) (.cond (.t 121) (.seq (.reg false [.V 4 (.asg (.c (.bool false)))] [4] []) .ret) .skip)) (.seq (.seq (.reg false [.V 20 (.asg (.c (.int .i64 0)))] [10,18,20] [10,18]) (.block 0 (.loop Zk0))) Zln)))
def Zlh : C :=
 .seq (.reg false [.V 64 (.mv (.t 1)),.V 65 (.call (.c (.fn 371 [])) [.t 64]),.V 63 (.mv (.t 65)),.V 66 (.ext (.t 63) 0),.V 67 (.ext (.t 63) 1),.W 10 (.asg (.t 66)),.V 11 (.asg (.t 67))] [10,11] [10]) (.seq (.reg false [.V 69 (.mv (.t 10)),.V 70 (.mv (.t 11)),.V 71 (.call (.c (.fn 370 [])) [.t 69,.t 70]),.V 68 (.mv (.t 71)),.V 72 (.ext (.t 68) 0),.V 73 (.ext (.t 68) 1),.V 12 (.asg (.t 72)),.V 13 (.asg (.t 73))] [10,11,12,13] [10]) (.seq (.seq (.reg false [.V 74 (.mv (.t 13)),.V 75 (.bin .eql (.t 74) (.c (.int .i64 0)))] [10,11,12,75] [10]) (.cond (.t 75) (.seq (.reg false [.V 77 (.mv (.t 12)),.V 78 (.mv (.t 10)),.V 79 (.mv (.t 11)),.W 80 (.call (.c (.fn 369 [])) [.t 77,.t 78,.t 79]),.V 76 (.mv (.t 80)),.V 81 (.ext (.t 76) 0),.V 82 (.ext (.t 76) 1),.V 14 (.mv (.t 81)),.V 15 (.asg (.t 82))] [10,11,12,15] [10]) (.seq (.reg false [.V 84 (.mv (.t 12)),.V 85 (.bin .sub (.t 84) (.c (.int .i64 1))),.V 86 (.mv (.t 10)),.V 87 (.mv (.t 11)),.W 88 (.call (.c (.fn 369 [])) [.t 85,.t 86,.t 87]),.V 83 (.mv (.t 88)),.V 89 (.ext (.t 83) 0),.V 90 (.ext (.t 83) 1),.V 16 (.mv (.t 89)),.V 17 (.asg (.t 90))] [10,12,15,17] [10]) (.seq (.reg false [.V 91 (.mv (.t 12)),.V 92 (.bin .lss (.t 91) (.c (.int .i64 1))),.V 93 (.mv (.t 92)),.G 94 (.mv (.t 15)) 2 false,.G 95 (.bin .neq (.t 94) (.c (.int .i64 0))) 2 false,.V 96 (.pick (.t 93) (.c (.bool true)) (.t 95)),.V 97 (.mv (.t 96)),.G 98 (.mv (.t 12)) 6 false,.G 99 (.bin .gtr (.t 98) (.c (.int .i64 1))) 6 false,.G 100 (.mv (.t 99)) 6 false,.G 101 (.mv (.t 17)) 9 true,.G 102 (.bin .neq (.t 101) (.c (.int .i64 3))) 9 true,.G 103 (.pick (.t 100) (.t 102) (.c (.bool false))) 6 false,.V 104 (.pick (.t 97) (.c (.bool true)) (.t 103))] [10,104] [10]) (.cond (.t 104) (.seq (.reg false [.V 4 (.asg (.c (.bool false)))] [4] []) .ret) .skip)))) (.seq (.reg false [.V 105 (.mv (.t 12)),.V 106 (.bin .neq (.t 105) (.c (.int .i64 0)))] [10,106] [10]) (.cond (.t 106) (.seq (.reg false [.V 4 (.asg (.c (.bool false)))] [4] []) .ret) .skip)))) (.opn 5000010 (.norm [10] [] Zls))))
def Zkw : C :=
 .seq (.reg false [.V 30 (.mv (.t 0)),.V 31 (.call (.c (.fn 374 [])) [.t 30]),.V 29 (.mv (.t 31)),.V 32 (.ext (.t 29) 0),.V 33 (.ext (.t 29) 1),.V 34 (.ext (.t 29) 2),.V 5 (.asg (.t 32)),.W 6 (.asg (.t 33)),.V 7 (.asg (.t 34))] [1,5,6,7] [6]) (.seq (.reg false [.V 36 (.mv (.t 5)),.V 37 (.mv (.t 6)),.V 38 (.mv (.t 7)),.W 39 (.call (.c (.fn 369 [])) [.t 36,.t 37,.t 38]),.V 35 (.mv (.t 39)),.V 40 (.ext (.t 35) 0),.V 41 (.ext (.t 35) 1),.W 8 (.asg (.t 40)),.V 9 (.asg (.t 41))] [1,5,6,8,9] [6,8]) (.seq (.seq (.reg false [.V 42 (.mv (.t 9)),.V 43 (.bin .eql (.t 42) (.c (.int .i64 0)))] [1,5,6,8,43] [6,8]) (.cond (.t 43) (.seq (.reg false [.V 44 (.mv (.t 8)),.V 45 (.len (.t 44)),.V 46 (.mv (.t 5)),.V 47 (.bin .neq (.t 45) (.t 46)),.V 48 (.mv (.t 47)),.G 49 (.mv (.t 8)) 4 false,.G 50 (.mv (.t 6)) 4 false,.G 51 (.call (.c (.fn 372 [])) [.t 49,.t 50]) 4 false,.G 52 (.un .not (.t 51)) 4 false,.V 53 (.pick (.t 48) (.c (.bool true)) (.t 52)),.V 54 (.mv (.t 53)),.G 55 (.mv (.t 8)) 10 false,.G 56 (.mv (.t 6)) 10 false,.G 57 (.call (.c (.fn 373 [])) [.t 55,.t 56]) 10 false,.G 58 (.un .not (.t 57)) 10 false,.V 59 (.pick (.t 54) (.c (.bool true)) (.t 58))] [1,59] []) (.cond (.t 59) (.seq (.reg false [.V 4 (.asg (.c (.bool false)))] [4] []) .ret) .skip)) (.seq (.reg false [.V 60 (.mv (.t 8)),.V 61 (.len (.t 60)),.V 62 (.bin .neq (.t 61) (.c (.int .i64 0)))] [1,62] []) (.cond (.t 62) (.seq (.reg false [.V 4 (.asg (.c (.bool false)))] [4] []) .ret) .skip)))) (.norm [1] [] Zlh)))
def Zb0 : Fn := { np := 2,io := [],res := [.t 4],own := [false],body :=
 (.seq (.reg false [.V 4 (.asg (.c (.bool false)))] [0,1] []) (.seq (.seq (.reg false [.V 23 (.mv (.t 0)),.V 24 (.call (.c (.fn 76 [])) [.t 23]),.V 25 (.mv (.t 24)),.G 26 (.mv (.t 1)) 2 false,.G 27 (.call (.c (.fn 76 [])) [.t 26]) 2 false,.V 28 (.pick (.t 25) (.c (.bool true)) (.t 27))] [0,1,28] []) (.cond (.t 28) (.seq (.reg false [.V 4 (.asg (.c (.bool true)))] [4] []) .ret) .skip)) (.norm [0,1] [] Zkw))) }
noncomputable def Zbk : List (Nat × Callee) := [(76,Zg4),(366,Zfc),(367,Zfr),(368,Zes),(369,Zb4),(370,Zcs),(371,Zbm),(372,Zd7),(373,Zeb),(374,Zcc)]
def Zcj : List (Nat × ET) := [(6,T_Peg),(8,(.one (.sl (.one (.int .i64))))),(10,T_Peg),(14,(.one (.sl (.one (.int .i64))))),(16,(.one (.sl (.one (.int .i64))))),(18,(.one (.int .i64))),(23,(.one (.int .u8))),(26,(.one (.int .u8))),(30,(.one (.int .u8))),(33,T_Peg),(37,T_Peg),(40,(.one (.sl (.one (.int .i64))))),(44,(.one (.sl (.one (.int .i64))))),(49,(.one (.sl (.one (.int .i64))))),(50,T_Peg),(55,(.one (.sl (.one (.int .i64))))),(56,T_Peg),(60,(.one (.sl (.one (.int .i64))))),(64,(.one (.int .u8))),(66,T_Peg),(69,T_Peg),(78,T_Peg),(81,(.one (.sl (.one (.int .i64))))),(86,T_Peg),(89,(.one (.sl (.one (.int .i64))))),(108,T_Peg),(110,(.one (.int .i64))),(114,(.one (.int .i64))),(117,(.one (.int .i64))),(119,T_Peg),(123,T_Peg),(129,T_Peg),(137,(.one (.int .i64))),(143,T_Peg),(148,T_Peg),(154,(.one (.int .i64))),(159,T_Peg),(173,T_Peg)]
noncomputable def Zci : Callee := Zab Zbk Zcj Zb0 [.d (.one (.sl (.one (.int .u8)))),.d (.one (.sl (.one (.int .u8))))] [.d (.one .bool)] []
noncomputable def Zjt (a0 : List Int) (a1 : List Int) : Option (Bool) := Zci.f (a0,a1,())
noncomputable def Zll  (v0 : List Int) (v1 : List Int) : Option (Bool) :=
 goL Zbk Zcj (vleave Zb0 [.d (.one (.sl (.one (.int .u8)))),.d (.one (.sl (.one (.int .u8))))] [.d (.one .bool)] [] []) [.c Zkw]
  ⟨[(0,.sl (.one (.int .u8)) v0),(1,.sl (.one (.int .u8)) v1)],[]⟩
noncomputable def Zc7  (v1 : List Int) : Option (Bool) :=
 goL Zbk Zcj (vleave Zb0 [.d (.one (.sl (.one (.int .u8)))),.d (.one (.sl (.one (.int .u8))))] [.d (.one .bool)] [] []) [.c Zlh]
  ⟨[(1,.sl (.one (.int .u8)) v1)],[]⟩
noncomputable def Zbu  (v10 : List T_Peg.ty) : Option (Bool) :=
 goL Zbk Zcj (vleave Zb0 [.d (.one (.sl (.one (.int .u8)))),.d (.one (.sl (.one (.int .u8))))] [.d (.one .bool)] [] []) [.c Zls]
  ⟨[(10,.sl T_Peg v10)],[]⟩
noncomputable def Zc5  (v10 : List T_Peg.ty) (v20 : Int) (r18 : List Int) : Option (Bool) :=
 goL Zbk Zcj (vleave Zb0 [.d (.one (.sl (.one (.int .u8)))),.d (.one (.sl (.one (.int .u8))))] [.d (.one .bool)] [] []) [.c Zk4,.l Zk0,.e 0,.c Zln]
  ⟨[(10,.sl T_Peg v10),(18,.view 18 0 r18.length),(20,.int .i64 v20)],[(10,none),(18,some (.sl (.one (.int .i64)) r18))]⟩
theorem Zsj (a0 : List Int) (a1 : List Int) : Zjt a0 a1 =
 (Zka a0).bind fun x1 =>
  if x1 then
   some true
  else
   (Zka a1).bind fun x2 =>
    if x2 then
     some true
    else
     Zll a0 a1 :=
 (mk_f _ _ _ _ _ _ _ 4000).trans (by kernel_rfl)
theorem Zo1  (v0 : List Int) (v1 : List Int) : Zll v0 v1 =
 (Zgd v0).bind fun x1 =>
  (Za6 x1.1 (x1.2.1.take x1.2.1.length) x1.2.2).bind fun x2 =>
   if (x2.2 == 0) then
    if ((x2.1.length : Int) != x1.1) then
     some false
    else
     (Zf4 x2.1 (x1.2.1.take x1.2.1.length)).bind fun x3 =>
      if (!x3) then
       some false
      else
       (Zf5 x2.1 (x1.2.1.take x1.2.1.length)).bind fun x4 =>
        if (!x4) then
         some false
        else
         Zc7 v1
   else
    if ((x2.1.length : Int) != 0) then
     some false
    else
     Zc7 v1 :=
 (goL_dn _ _ _ 4000 _ _).trans (by kernel_rfl)
theorem Zov  (v1 : List Int) : Zc7 v1 =
 (Zei v1).bind fun x1 =>
  (Zhx (x1.1.take x1.1.length) x1.2).bind fun x2 =>
   if (x2.2 == 0) then
    (Za6 x2.1 (x1.1.take x1.1.length) x1.2).bind fun x3 =>
     (Za6 (IntKind.i64.wrap (x2.1 - 1)) (x1.1.take x1.1.length) x1.2).bind fun x4 =>
      if decide (x2.1 < 1) then
       some false
      else
       if (x3.2 != 0) then
        some false
       else
        if decide (x2.1 > 1) then
         if (x4.2 != 3) then
          some false
         else
          Zbu (x1.1.take x1.1.length)
        else
         Zbu (x1.1.take x1.1.length)
   else
    if (x2.1 != 0) then
     some false
    else
     Zbu (x1.1.take x1.1.length) :=
 (goL_dn _ _ _ 4000 _ _).trans (by kernel_rfl)
theorem Zp4  (v10 : List T_Peg.ty) : Zbu v10 =
 (Zmf v10).bind fun x1 =>
  if (x1.2 != 0) then
   some ((x1.1.length : Int) == 0)
  else
   if ((x1.1.length : Int) != (v10.length : Int)) then
    some false
   else
    Zc5 v10 0 x1.1 :=
 (goL_dn _ _ _ 4000 _ _).trans (by kernel_rfl)
theorem Zib  (v10 : List T_Peg.ty) (v20 : Int) (r18 : List Int) : Zc5 v10 v20 r18 =
 if decide (v20 < (v10.length : Int)) then
  if decide (0 ≤ v20) then
   (v10[v20.toNat]?).bind fun x1 =>
    (Zil x1).bind fun x2 =>
     (Zii x2).bind fun x3 =>
      if decide (0 ≤ v20) && decide (v20 < (r18.length : Int)) then
       (r18[v20.toNat]?).bind fun x4 =>
        if decide (x4 < 0) then
         some false
        else
         if decide (0 ≤ v20) then
          (v10[v20.toNat]?).bind fun x5 =>
           if decide (0 ≤ v20) then
            (v10[v20.toNat]?).bind fun x6 =>
             if decide (0 ≤ v20) && decide (v20 < (r18.length : Int)) then
              (r18[v20.toNat]?).bind fun x7 =>
               if decide (0 ≤ v20) then
                (v10[v20.toNat]?).bind fun x8 =>
                 if (IntKind.i64.wrap ((IntKind.i64.wrap (x5.2.2.1 + x6.2.1)) + x7) != IntKind.i64.wrap (x8.2.2.2.1 + 1)) then
                  some false
                 else
                  if (!x3.2) then
                   some false
                  else
                   if decide (0 ≤ v20) then
                    (v10[v20.toNat]?).bind fun x9 =>
                     if (!((x3.1.1 == x9.1) && ((x3.1.2.1 == x9.2.1) && ((x3.1.2.2.1 == x9.2.2.1) && (x3.1.2.2.2.1 == x9.2.2.2.1))))) then
                      some false
                     else
                      Zc5 v10 (IntKind.i64.wrap (v20 + 1)) r18
                   else
                    none
               else
                none
             else
              none
           else
            none
         else
          none
      else
       none
  else
   none
 else
  some true :=
 (goL_dn _ _ _ 4000 _ _).trans (by kernel_rfl)
end Go.Ab.P
