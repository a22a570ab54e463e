/- Functions of the program: abstract forms, and what their runs give. Conditions: none. -/
import Derived.Test.YtobkmdnplcmndaaLH
import Derived.Test.YtobkmdnplcmndaaLD
import Derived.Test.YtobkmdnplcmndaaL8
set_option maxRecDepth 100000
set_option linter.unusedVariables false
namespace Go.Ab.P
open Go.Ab
@[reducible] def Zp5 : ET := .agg (.cons .str (.cons (.int .i64) .nil))
@[reducible] def Zaa : ET := .agg (.cons .str (.cons .str (.cons (.int .i64) .nil)))
@[reducible] def T_Role : ET := .agg (.cons .str (.cons (.sl (.one .str)) .nil))
@[reducible] def Zab : ET := .agg (.cons (.sl (.one (.int .u8))) (.cons (.int .i64) (.cons (.int .u64) .nil)))
def Zym : Fn := { np := 1,io := [],res := [.t 2],own := [false],body :=
 (.seq (.reg false [.V 2 (.asg (.c (.bool false)))] [0] []) (.seq (.reg false [.V 3 (.mv (.t 0)),.V 4 (.len (.t 3)),.V 5 (.bin .gtr (.t 4) (.c (.int .i64 1048576))),.V 2 (.asg (.t 5))] [2] []) .ret)) }
noncomputable def Zr9 : List (Nat × Callee) := []
def Zz4 : List (Nat × ET) := [(3,(.one (.int .u8)))]
noncomputable def Zlo : Callee := Zad Zr9 Zz4 Zym [.d (.one (.sl (.one (.int .u8))))] [.d (.one .bool)] []
noncomputable def Zhe (a0 : List Int) : Option (Bool) := Zlo.f (a0,())
theorem Zq3 (a0 : List Int) : Zhe a0 =
 some (decide ((a0.length : Int) > 1048576)) :=
 (mk_f _ _ _ _ _ _ _ 4000).trans (by kernel_rfl)
def Zyv : Fn := { np := 1,io := [],res := [.t 2],own := [true],body :=
 (.seq (.reg false [.V 2 (.asg (.c (.cst (.pointer none))))] [0] []) (.seq (.reg false [.V 3 (.mv (.t 0)),.V 4 (.build [.nils 1,.int .i64 0,.int .u64 0] [(0,1,.t 3)]),.W 5 (.box 3 (.t 4)),.V 2 (.asg (.t 5))] [2] [5,6000]) .ret)) }
noncomputable def Zrw : List (Nat × Callee) := []
def Zz5 : List (Nat × ET) := [(3,(.one (.int .u8)))]
noncomputable def Zhx : Callee := Zad Zrw Zz5 Zyv [.d (.one (.sl (.one (.int .u8))))] [.box Zab] []
noncomputable def Zkj (a0 : List Int) : Option (Zab.ty) := Zhx.f (a0,())
theorem Zyb (a0 : List Int) : Zkj a0 =
 some (a0,0,0,()) :=
 (mk_f _ _ _ _ _ _ _ 4000).trans (by kernel_rfl)
def Zk6 : C :=
 .seq (.reg false [.V 25 (.mv (.t 0)),.V 26 (.nilck (.t 25)),.V 27 (.fa 1 (.t 26)),.V 28 (.ld none (.t 27)),.V 29 (.bin .add (.t 28) (.c (.int .i64 1))),.V 30 (.nilck (.t 25)),.V 31 (.fa 1 (.t 30)),⟨none,true,.sto 1 (.t 31) (.t 29),none,false,[]⟩] [0,3] [0,1000]) (.seq (.reg false [.V 32 (.mv (.t 0)),.V 33 (.mv (.t 0)),.V 34 (.nilck (.t 33)),.V 35 (.fa 2 (.t 34)),.V 36 (.ld none (.t 35)),.V 37 (.bin .mul (.t 36) (.c (.int .u64 6364136223846793005))),.V 38 (.mv (.t 3)),.V 39 (.conv (.int .u64) (.t 38)),.V 40 (.bin .add (.t 37) (.t 39)),.V 41 (.bin .add (.t 40) (.c (.int .u64 1442695040888963407))),.V 42 (.nilck (.t 32)),.V 43 (.fa 2 (.t 42)),⟨none,true,.sto 1 (.t 43) (.t 41),none,false,[]⟩] [0,3] [0,1000]) (.seq (.seq (.reg true [.V 44 (.mv (.t 0)),.V 45 (.nilck (.t 44)),.V 46 (.fa 1 (.t 45)),.V 47 (.ld none (.t 46)),.V 48 (.mv (.t 0)),.V 49 (.nilck (.t 48)),.V 50 (.fa 0 (.t 49)),.V 51 (.ld none (.t 50)),.V 52 (.len (.t 51)),.V 53 (.bin .leq (.t 47) (.t 52))] [0,3,53] [0,1000]) (.cond (.t 53) (.seq (.reg false [.V 54 (.mv (.t 3)),.V 2 (.asg (.t 54))] [0,2] [0,1000]) .ret) .skip)) (.seq (.reg false [.V 55 (.mv (.t 0)),.V 56 (.nilck (.t 55)),.V 57 (.fa 2 (.t 56)),.V 58 (.ld none (.t 57)),.V 59 (.bin .shr (.t 58) (.c (.int .u64 40))),.V 60 (.bin .and (.t 59) (.c (.int .u64 255))),.V 61 (.conv (.int .i64) (.t 60)),.V 2 (.asg (.t 61))] [0,2] [0,1000]) .ret)))
def Zla : Fn := { np := 1,io := [true],res := [.t 2],own := [false],body :=
 (.seq (.reg false [.V 2 (.asg (.c (.int .i64 0)))] [0] [0,1000]) (.seq (.reg false [.V 3 (.asg (.c (.int .i64 0)))] [0,3] [0,1000]) (.seq (.seq (.reg true [.V 4 (.mv (.t 0)),.V 5 (.nilck (.t 4)),.V 6 (.fa 1 (.t 5)),.V 7 (.ld none (.t 6)),.V 8 (.mv (.t 0)),.V 9 (.nilck (.t 8)),.V 10 (.fa 0 (.t 9)),.V 11 (.ld none (.t 10)),.V 12 (.len (.t 11)),.V 13 (.bin .lss (.t 7) (.t 12))] [0,3,13] [0,1000]) (.cond (.t 13) (.reg true [.V 14 (.mv (.t 0)),.V 15 (.nilck (.t 14)),.V 16 (.fa 0 (.t 15)),.V 17 (.ld none (.t 16)),.V 18 (.mv (.t 0)),.V 19 (.nilck (.t 18)),.V 20 (.fa 1 (.t 19)),.V 21 (.ld none (.t 20)),.V 22 (.ia 1 (.t 17) (.t 21)),.V 23 (.ld none (.t 22)),.V 24 (.conv (.int .i64) (.t 23)),.V 3 (.asg (.t 24))] [0,3] [0,1000]) .skip)) (.norm [0,3] [0,1000] Zk6)))) }
noncomputable def Zho : List (Nat × Callee) := []
def Zmm : List (Nat × ET) := [(11,(.one (.int .u8))),(17,(.one (.int .u8))),(51,(.one (.int .u8)))]
noncomputable def Zhg : Callee := Zad Zho Zmm Zla [.box Zab] [.d (.one (.int .i64))] [.box Zab]
noncomputable def Zed (a0 : Zab.ty) : Option (Int × Zab.ty) := Zhg.f (a0,())
noncomputable def Zer  (v3 : Int) (r0_0 : List Int) (r0_1 : Int) (r0_2 : Int) : Option (Int × Zab.ty) :=
 goL Zho Zmm (vleave Zla [.box Zab] [.d (.one (.int .i64))] [.box Zab] []) [.c Zk6]
  ⟨[(0,.loc 0 0 0),(3,.int .i64 v3)],[(0,some (.var 3 (.agg [.sl (.one (.int .u8)) r0_0,.int .i64 r0_1,.int .u64 r0_2]))),(1000,none)]⟩
theorem Zty (a0 : Zab.ty) : Zed a0 =
 if decide (a0.2.1 < (a0.1.length : Int)) then
  if decide (0 ≤ a0.2.1) then
   (a0.1[a0.2.1.toNat]?).bind fun x1 =>
    Zer (IntKind.i64.wrap x1) a0.1 a0.2.1 a0.2.2.1
  else
   none
 else
  Zer 0 a0.1 a0.2.1 a0.2.2.1 :=
 (mk_f _ _ _ _ _ _ _ 4000).trans (by kernel_rfl)
theorem Zrh  (v3 : Int) (r0_0 : List Int) (r0_1 : Int) (r0_2 : Int) : Zer v3 r0_0 r0_1 r0_2 =
 if decide (IntKind.i64.wrap (r0_1 + 1) ≤ (r0_0.length : Int)) then
  some (v3,(r0_0,IntKind.i64.wrap (r0_1 + 1),IntKind.u64.wrap ((IntKind.u64.wrap ((IntKind.u64.wrap (r0_2 * 6364136223846793005)) + (IntKind.u64.wrap v3))) + 1442695040888963407),()))
 else
  some (IntKind.i64.wrap (IntKind.u64.wrap ((BitVec.ofInt IntKind.u64.bits (Int.fdiv (IntKind.u64.wrap ((IntKind.u64.wrap ((IntKind.u64.wrap (r0_2 * 6364136223846793005)) + (IntKind.u64.wrap v3))) + 1442695040888963407)) (2 ^ (min (40 : Int).toNat IntKind.u64.bits))) &&& BitVec.ofInt IntKind.u64.bits 255).toNat : Int)),(r0_0,IntKind.i64.wrap (r0_1 + 1),IntKind.u64.wrap ((IntKind.u64.wrap ((IntKind.u64.wrap (r0_2 * 6364136223846793005)) + (IntKind.u64.wrap v3))) + 1442695040888963407),())) :=
 (goL_dn _ _ _ 4000 _ _).trans (by kernel_rfl)
def Zt8 : Fn := { np := 2,io := [true,false],res := [.t 4],own := [false],body :=
 (.seq (.reg false [.V 4 (.asg (.c (.int .i64 0)))] [0,1] [0,1000]) (.seq (.seq (.reg false [.V 6 (.mv (.t 1)),.V 7 (.bin .leq (.t 6) (.c (.int .i64 1)))] [0,1,7] [0,1000]) (.cond (.t 7) (.seq (.reg false [.V 4 (.asg (.c (.int .i64 0)))] [0,4] [0,1000]) .ret) .skip)) (.seq (.reg false [.V 8 (.mv (.t 0)),.W 9 (.call (.c (.fn 847 [])) [.t 8]),.V 5 (.asg (.t 9))] [0,1,5] [0,1000]) (.seq (.seq (.reg false [.V 10 (.mv (.t 1)),.V 11 (.bin .gtr (.t 10) (.c (.int .i64 200)))] [0,1,5,11] [0,1000]) (.cond (.t 11) (.reg false [.V 12 (.mv (.t 5)),.V 13 (.bin .mul (.t 12) (.c (.int .i64 256))),.V 14 (.mv (.t 0)),.W 15 (.call (.c (.fn 847 [])) [.t 14]),.V 16 (.bin .add (.t 13) (.t 15)),.V 5 (.asg (.t 16))] [0,1,5] [0,1000]) .skip)) (.seq (.reg false [.V 17 (.mv (.t 5)),.V 18 (.mv (.t 1)),.V 19 (.bin .rem (.t 17) (.t 18)),.V 4 (.asg (.t 19))] [0,4] [0,1000]) .ret))))) }
noncomputable def Zmp : List (Nat × Callee) := [(847,Zhg)]
def Zvg : List (Nat × ET) := []
noncomputable def Zcj : Callee := Zad Zmp Zvg Zt8 [.box Zab,.d (.one (.int .i64))] [.d (.one (.int .i64))] [.box Zab]
noncomputable def Zax (a0 : Zab.ty) (a1 : Int) : Option (Int × Zab.ty) := Zcj.f (a0,a1,())
theorem Zt5 (a0 : Zab.ty) (a1 : Int) : Zax a0 a1 =
 if decide (a1 ≤ 1) then
  some (0,a0)
 else
  (Zed a0).bind fun x1 =>
   if decide (a1 > 200) then
    (Zed (x1.2.1,x1.2.2.1,x1.2.2.2.1,())).bind fun x2 =>
     if decide (a1 = 0) then
      none
     else
      some ((IntKind.i64.wrap ((IntKind.i64.wrap (x1.1 * 256)) + x2.1)).tmod a1,(x2.2.1,x2.2.2.1,x2.2.2.2.1,()))
   else
    if decide (a1 = 0) then
     none
    else
     some (x1.1.tmod a1,(x1.2.1,x1.2.2.1,x1.2.2.2.1,())) :=
 (mk_f _ _ _ _ _ _ _ 4000).trans (by kernel_rfl)
def Zuw : Fn := { np := 2,io := [true,false],res := [.t 4],own := [false],body :=
 (.seq (.reg false [.V 4 (.asg (.c (.bool false)))] [0,1] [0,1000]) (.seq (.reg false [.V 5 (.mv (.t 0)),.V 6 (.mv (.t 1)),.W 7 (.call (.c (.fn 463 [])) [.t 5,.t 6]),.V 8 (.bin .eql (.t 7) (.c (.int .i64 0))),.V 4 (.asg (.t 8))] [0,4] [0,1000]) .ret)) }
noncomputable def Zns : List (Nat × Callee) := [(463,Zcj)]
def Zwe : List (Nat × ET) := []
noncomputable def Zh9 : Callee := Zad Zns Zwe Zuw [.box Zab,.d (.one (.int .i64))] [.d (.one .bool)] [.box Zab]
noncomputable def Zcc (a0 : Zab.ty) (a1 : Int) : Option (Bool × Zab.ty) := Zh9.f (a0,a1,())
theorem Zu6 (a0 : Zab.ty) (a1 : Int) : Zcc a0 a1 =
 (Zax a0 a1).bind fun x1 =>
  some ((x1.1 == 0),(x1.2.1,x1.2.2.1,x1.2.2.2.1,())) :=
 (mk_f _ _ _ _ _ _ _ 4000).trans (by kernel_rfl)
def Zt1 : Fn := { np := 2,io := [true,false],res := [.t 4],own := [false],body :=
 (.seq (.reg false [.V 4 (.asg (.c (.str [])))] [0,1] [0,1000]) (.seq (.reg false [.V 5 (.mv (.t 1)),.V 6 (.mv (.t 0)),.V 7 (.mv (.t 1)),.V 8 (.len (.t 7)),.W 9 (.call (.c (.fn 463 [])) [.t 6,.t 8]),.V 10 (.ia 1 (.t 5) (.t 9)),.V 11 (.ld none (.t 10)),.V 4 (.asg (.t 11))] [0,4] [0,1000]) .ret)) }
noncomputable def Zmk : List (Nat × Callee) := [(463,Zcj)]
def Zvy : List (Nat × ET) := [(5,(.one .str)),(7,(.one .str))]
noncomputable def Ze7 : Callee := Zad Zmk Zvy Zt1 [.box Zab,.d (.one (.sl (.one .str)))] [.d (.one .str)] [.box Zab]
noncomputable def Zch (a0 : Zab.ty) (a1 : List (List UInt8)) : Option (List UInt8 × Zab.ty) := Ze7.f (a0,a1,())
theorem Zuj (a0 : Zab.ty) (a1 : List (List UInt8)) : Zch a0 a1 =
 (Zax a0 (a1.length : Int)).bind fun x1 =>
  if decide (0 ≤ x1.1) then
   (a1[x1.1.toNat]?).bind fun x2 =>
    some (x2,(x1.2.1,x1.2.2.1,x1.2.2.2.1,()))
  else
   none :=
 (mk_f _ _ _ _ _ _ _ 4000).trans (by kernel_rfl)
def Zsh : Fn := { np := 2,io := [true,false],res := [.t 4],own := [false],body :=
 (.seq (.reg false [.V 4 (.asg (.c (.int .i64 0)))] [0,1] [0,1000]) (.seq (.reg false [.V 5 (.mv (.t 1)),.V 6 (.mv (.t 0)),.V 7 (.mv (.t 1)),.V 8 (.len (.t 7)),.W 9 (.call (.c (.fn 463 [])) [.t 6,.t 8]),.V 10 (.ia 1 (.t 5) (.t 9)),.V 11 (.ld none (.t 10)),.V 4 (.asg (.t 11))] [0,4] [0,1000]) .ret)) }
noncomputable def Zlc : List (Nat × Callee) := [(463,Zcj)]
def Zug : List (Nat × ET) := [(5,(.one (.int .i64))),(7,(.one (.int .i64)))]
noncomputable def Zeq : Callee := Zad Zlc Zug Zsh [.box Zab,.d (.one (.sl (.one (.int .i64))))] [.d (.one (.int .i64))] [.box Zab]
noncomputable def Zcl (a0 : Zab.ty) (a1 : List Int) : Option (Int × Zab.ty) := Zeq.f (a0,a1,())
theorem Zs9 (a0 : Zab.ty) (a1 : List Int) : Zcl a0 a1 =
 (Zax a0 (a1.length : Int)).bind fun x1 =>
  if decide (0 ≤ x1.1) then
   (a1[x1.1.toNat]?).bind fun x2 =>
    some (x2,(x1.2.1,x1.2.2.1,x1.2.2.2.1,()))
  else
   none :=
 (mk_f _ _ _ _ _ _ _ 4000).trans (by kernel_rfl)
noncomputable def Zgo : Callee := Zss Zcc Zax Zch Zcl
noncomputable def Zih (a0 : Zab.ty) : Option (List T_Role.ty × Zab.ty) := Zgo.f (a0,())
theorem Zsr (a0 : Zab.ty) : Zih a0 = (drF Zcc Zax Zch Zcl a0).map fun r => (r.2.map toRole,r.1) := rfl
def Zse : Fn := { np := 1,io := [true],res := [.t 2],own := [false],body :=
 (.seq (.reg false [.V 2 (.asg (.c (.str [])))] [0] [0,1000]) (.seq (.reg false [.V 3 (.mv (.t 0)),.V 4 (.bsl 1 (.str []) 3 [(0,.c (.str [98,111,119])),(1,.c (.str [112,108,97,116,101])),(2,.c (.str [115,116,111,99,107]))]),.W 5 (.call (.c (.fn 557 [])) [.t 3,.t 4]),.V 2 (.asg (.t 5))] [0,2] [0,1000]) .ret)) }
noncomputable def Zka : List (Nat × Callee) := [(557,Ze7)]
def Zsp : List (Nat × ET) := [(4,(.one .str))]
noncomputable def Zfx : Callee := Zad Zka Zsp Zse [.box Zab] [.d (.one .str)] [.box Zab]
noncomputable def Zg9 (a0 : Zab.ty) : Option (List UInt8 × Zab.ty) := Zfx.f (a0,())
theorem Zr3 (a0 : Zab.ty) : Zg9 a0 =
 (Zch a0 [[98,111,119],[112,108,97,116,101],[115,116,111,99,107]]).bind fun x1 =>
  some (x1.1,(x1.2.1,x1.2.2.1,x1.2.2.2.1,())) :=
 (mk_f _ _ _ _ _ _ _ 4000).trans (by kernel_rfl)
def Zmf : C :=
 .seq (.seq (.reg false [.V 24 (.mv (.t 0)),.W 25 (.call (.c (.fn 463 [])) [.t 24,.c (.int .i64 24)])] [0,4,5,25] [0,4,5,1000]) (.block 0 (.seq (.reg false [.V 27 (.bin .eql (.t 25) (.c (.int .i64 0))),.V 26 (.asg (.t 27))] [0,4,5,25,26] [0,4,5,1000]) (.cond (.t 26) (.reg false [.V 28 (.mv (.t 0)),.V 29 (.bsl 1 (.int .i64 0) 2 [(0,.c (.int .i64 0)),(1,.c (.int .i64 4))]),.W 30 (.call (.c (.fn 445 [])) [.t 28,.t 29]),.V 31 (.fa 2 (.t 5)),⟨none,true,.sto 1 (.t 31) (.t 30),none,false,[]⟩] [0,4,5] [0,4,5,1000]) (.seq (.reg false [.V 33 (.bin .eql (.t 25) (.c (.int .i64 1))),.V 32 (.asg (.t 33))] [0,4,5,25,32] [0,4,5,1000]) (.cond (.t 32) (.reg false [.V 34 (.mv (.t 0)),.V 35 (.bsl 1 (.str []) 2 [(0,.c (.str [122,122])),(1,.c (.str []))]),.W 36 (.call (.c (.fn 557 [])) [.t 34,.t 35]),.V 37 (.fa 0 (.t 5)),⟨none,true,.sto 1 (.t 37) (.t 36),none,false,[]⟩] [0,4,5] [0,4,5,1000]) (.seq (.reg false [.V 39 (.bin .eql (.t 25) (.c (.int .i64 2))),.V 38 (.asg (.t 39))] [0,4,5,38] [0,4,5,1000]) (.cond (.t 38) (.reg false [.V 40 (.mv (.t 0)),.V 41 (.bsl 1 (.str []) 2 [(0,.c (.str [])),(1,.c (.str [66]))]),.W 42 (.call (.c (.fn 557 [])) [.t 40,.t 41]),.V 43 (.fa 1 (.t 5)),⟨none,true,.sto 1 (.t 43) (.t 42),none,false,[]⟩] [0,4,5] [0,4,5,1000]) .skip)))))))) (.seq (.reg false [.V 44 (.ld (some 3) (.t 5)),⟨none,true,.sto 3 (.t 4) (.t 44),none,false,[]⟩] [0,4] [0,4,1000]) .ret)
def Zmo : Fn := { np := 2,io := [true,false],res := [.cell 4 (some 3)],own := [false],body :=
 (.seq (.reg false [.W 4 (.alloc 3 (.agg [.str [],.str [],.int .i64 0]))] [0,1,4] [0,4,1000]) (.seq (.reg false [.V 6 (.mv (.t 0)),.W 7 (.call (.c (.fn 812 [])) [.t 6]),.V 8 (.mv (.t 0)),.W 9 (.call (.c (.fn 463 [])) [.t 8,.c (.int .i64 3)]),.V 10 (.bin .add (.c (.int .i64 1)) (.t 9)),.V 11 (.build [.str [],.str [],.int .i64 0] [(0,1,.c (.str [108,117,116,104,105,101,114])),(1,1,.t 7),(2,1,.t 10)]),.W 5 (.alloc 3 (.agg [.str [],.str [],.int .i64 0])),⟨none,true,.sto 3 (.t 5) (.t 11),none,false,[]⟩] [0,1,4,5] [0,4,5,1000]) (.seq (.seq (.reg false [.V 12 (.mv (.t 1)),.V 13 (.len (.t 12)),.V 14 (.bin .gtr (.t 13) (.c (.int .i64 0)))] [0,1,4,5,14] [0,4,5,1000]) (.cond (.t 14) (.reg false [.V 15 (.mv (.t 1)),.V 16 (.mv (.t 0)),.V 17 (.mv (.t 1)),.V 18 (.len (.t 17)),.W 19 (.call (.c (.fn 463 [])) [.t 16,.t 18]),.V 20 (.ia 2 (.t 15) (.t 19)),.V 21 (.fa 0 (.t 20)),.V 22 (.ld none (.t 21)),.V 23 (.fa 0 (.t 5)),⟨none,true,.sto 1 (.t 23) (.t 22),none,false,[]⟩] [0,4,5] [0,4,5,1000]) .skip)) (.norm [0,4,5] [0,4,5,1000] Zmf)))) }
noncomputable def Zii : List (Nat × Callee) := [(445,Zeq),(463,Zcj),(557,Ze7),(812,Zfx)]
def Znw : List (Nat × ET) := [(12,T_Role),(15,T_Role),(17,T_Role),(29,(.one (.int .i64))),(35,(.one .str)),(41,(.one .str))]
noncomputable def Zd2 : Callee := Zad Zii Znw Zmo [.box Zab,.d (.one (.sl T_Role))] [.d Zaa] [.box Zab]
noncomputable def Zc4 (a0 : Zab.ty) (a1 : List T_Role.ty) : Option (Zaa.ty × Zab.ty) := Zd2.f (a0,a1,())
noncomputable def Ze3  (r0_0 : List Int) (r0_1 : Int) (r0_2 : Int) (r4_0 : List UInt8) (r4_1 : List UInt8) (r4_2 : Int) (r5_0 : List UInt8) (r5_1 : List UInt8) (r5_2 : Int) : Option (Zaa.ty × Zab.ty) :=
 goL Zii Znw (vleave Zmo [.box Zab,.d (.one (.sl T_Role))] [.d Zaa] [.box Zab] []) [.c Zmf]
  ⟨[(0,.loc 0 0 0),(4,.loc 4 0 0),(5,.loc 5 0 0)],[(0,some (.var 3 (.agg [.sl (.one (.int .u8)) r0_0,.int .i64 r0_1,.int .u64 r0_2]))),(4,some (.var 3 (.agg [.str r4_0,.str r4_1,.int .i64 r4_2]))),(5,some (.var 3 (.agg [.str r5_0,.str r5_1,.int .i64 r5_2]))),(1000,none)]⟩
theorem Zu1 (a0 : Zab.ty) (a1 : List T_Role.ty) : Zc4 a0 a1 =
 (Zg9 a0).bind fun x1 =>
  (Zax (x1.2.1,x1.2.2.1,x1.2.2.2.1,()) 3).bind fun x2 =>
   if decide ((a1.length : Int) > 0) then
    (Zax (x2.2.1,x2.2.2.1,x2.2.2.2.1,()) (a1.length : Int)).bind fun x3 =>
     if decide (0 ≤ x3.1) then
      (a1[x3.1.toNat]?).bind fun x4 =>
       Ze3 x3.2.1 x3.2.2.1 x3.2.2.2.1 [] [] 0 x4.1 x1.1 (IntKind.i64.wrap (1 + x2.1))
     else
      none
   else
    Ze3 x2.2.1 x2.2.2.1 x2.2.2.2.1 [] [] 0 [108,117,116,104,105,101,114] x1.1 (IntKind.i64.wrap (1 + x2.1)) :=
 (mk_f _ _ _ _ _ _ _ 4000).trans (by kernel_rfl)
theorem Zrv  (r0_0 : List Int) (r0_1 : Int) (r0_2 : Int) (r4_0 : List UInt8) (r4_1 : List UInt8) (r4_2 : Int) (r5_0 : List UInt8) (r5_1 : List UInt8) (r5_2 : Int) : Ze3 r0_0 r0_1 r0_2 r4_0 r4_1 r4_2 r5_0 r5_1 r5_2 =
 (Zax (r0_0,r0_1,r0_2,()) 24).bind fun x1 =>
  if (x1.1 == 0) then
   (Zcl (x1.2.1,x1.2.2.1,x1.2.2.2.1,()) [0,4]).bind fun x2 =>
    some ((r5_0,r5_1,x2.1,()),(x2.2.1,x2.2.2.1,x2.2.2.2.1,()))
  else
   if (x1.1 == 1) then
    (Zch (x1.2.1,x1.2.2.1,x1.2.2.2.1,()) [[122,122],[]]).bind fun x3 =>
     some ((x3.1,r5_1,r5_2,()),(x3.2.1,x3.2.2.1,x3.2.2.2.1,()))
   else
    if (x1.1 == 2) then
     (Zch (x1.2.1,x1.2.2.1,x1.2.2.2.1,()) [[],[66]]).bind fun x4 =>
      some ((r5_0,x4.1,r5_2,()),(x4.2.1,x4.2.2.1,x4.2.2.2.1,()))
    else
     some ((r5_0,r5_1,r5_2,()),(x1.2.1,x1.2.2.1,x1.2.2.2.1,())) :=
 (goL_dn _ _ _ 4000 _ _).trans (by kernel_rfl)
def Zxc : Fn := { np := 1,io := [],res := [.t 2],own := [false],body :=
 (.seq (.reg false [.V 2 (.asg (.c (.bool false)))] [0] []) (.seq (.reg false [.V 3 (.mv (.t 0)),.V 4 (.bin .geq (.t 3) (.c (.int .u8 97))),.V 5 (.mv (.t 4)),.G 6 (.mv (.t 0)) 2 true,.G 7 (.bin .leq (.t 6) (.c (.int .u8 122))) 2 true,.V 8 (.pick (.t 5) (.t 7) (.c (.bool false))),.V 2 (.asg (.t 8))] [2] []) .ret)) }
noncomputable def Zq2 : List (Nat × Callee) := []
def Zyk : List (Nat × ET) := []
noncomputable def Zkh : Callee := Zad Zq2 Zyk Zxc [.d (.one (.int .u8))] [.d (.one .bool)] []
noncomputable def Ziw (a0 : Int) : Option (Bool) := Zkh.f (a0,())
theorem Zxx (a0 : Int) : Ziw a0 =
 if decide (a0 ≥ 97) then
  some (decide (a0 ≤ 122))
 else
  some false :=
 (mk_f _ _ _ _ _ _ _ 4000).trans (by kernel_rfl)
def Zw9 : Fn := { np := 1,io := [],res := [.t 2],own := [false],body :=
 (.seq (.reg false [.V 2 (.asg (.c (.bool false)))] [0] []) (.seq (.reg false [.V 3 (.mv (.t 0)),.V 4 (.bin .geq (.t 3) (.c (.int .u8 48))),.V 5 (.mv (.t 4)),.G 6 (.mv (.t 0)) 2 true,.G 7 (.bin .leq (.t 6) (.c (.int .u8 57))) 2 true,.V 8 (.pick (.t 5) (.t 7) (.c (.bool false))),.V 2 (.asg (.t 8))] [2] []) .ret)) }
noncomputable def Zq5 : List (Nat × Callee) := []
def Zyi : List (Nat × ET) := []
noncomputable def Zkl : Callee := Zad Zq5 Zyi Zw9 [.d (.one (.int .u8))] [.d (.one .bool)] []
noncomputable def Znj (a0 : Int) : Option (Bool) := Zkl.f (a0,())
theorem Zxt (a0 : Int) : Znj a0 =
 if decide (a0 ≥ 48) then
  some (decide (a0 ≤ 57))
 else
  some false :=
 (mk_f _ _ _ _ _ _ _ 4000).trans (by kernel_rfl)
def Zqt : C :=
 .seq (.seq (.reg false [.V 17 (.mv (.t 3)),.V 18 (.mv (.t 0)),.V 19 (.lens (.t 18)),.V 20 (.bin .lss (.t 17) (.t 19))] [0,3,20] []) (.cond (.t 20) .skip (.exit 0))) (.seq (.block 1 (.seq (.reg false [.V 23 (.mv (.t 0)),.V 24 (.mv (.t 3)),.V 25 (.ix (.t 23) (.t 24)),.V 26 (.call (.c (.fn 11 [])) [.t 25]),.V 27 (.un .not (.t 26)),.V 28 (.mv (.t 27)),.G 29 (.mv (.t 0)) 5 true,.G 30 (.mv (.t 3)) 5 true,.G 31 (.ix (.t 29) (.t 30)) 5 true,.G 32 (.call (.c (.fn 12 [])) [.t 31]) 5 true,.G 33 (.un .not (.t 32)) 5 true,.V 34 (.pick (.t 28) (.t 33) (.c (.bool false)))] [0,3,34] []) (.cond (.t 34) (.seq (.reg false [.V 2 (.asg (.c (.bool false)))] [2] []) .ret) .skip))) (.reg false [.V 21 (.mv (.t 3)),.V 22 (.bin .add (.t 21) (.c (.int .i64 1))),.V 3 (.asg (.t 22))] [0,3] []))
def Zqa : C :=
 .norm [0,3] [] Zqt
def Zp8 : C :=
 .seq (.reg false [.V 2 (.asg (.c (.bool true)))] [2] []) .ret
def Zqj : C :=
 .seq (.seq (.reg false [.V 3 (.asg (.c (.int .i64 0)))] [0,3] []) (.block 0 (.loop Zqa))) Zp8
def Zj9 : Fn := { np := 1,io := [],res := [.t 2],own := [false],body :=
 (.seq (.reg false [.V 2 (.asg (.c (.bool false)))] [0] []) (.seq (.seq (.reg false [.V 4 (.mv (.t 0)),.V 5 (.bin .eql (.t 4) (.c (.str []))),.V 6 (.mv (.t 5)),.G 7 (.mv (.t 0)) 2 false,.G 8 (.lens (.t 7)) 2 false,.G 9 (.bin .gtr (.t 8) (.c (.int .i64 10))) 2 false,.V 10 (.pick (.t 6) (.c (.bool true)) (.t 9)),.V 11 (.mv (.t 10)),.G 12 (.mv (.t 0)) 7 false,.G 13 (.ix (.t 12) (.c (.int .i64 0))) 7 false,.G 14 (.call (.c (.fn 11 [])) [.t 13]) 7 false,.G 15 (.un .not (.t 14)) 7 false,.V 16 (.pick (.t 11) (.c (.bool true)) (.t 15))] [0,16] []) (.cond (.t 16) (.seq (.reg false [.V 2 (.asg (.c (.bool false)))] [2] []) .ret) .skip)) (.norm [0] [] Zqj))) }
noncomputable def Zht : List (Nat × Callee) := [(11,Zkh),(12,Zkl)]
def Zln : List (Nat × ET) := []
noncomputable def Zh4 : Callee := Zad Zht Zln Zj9 [.d (.one .str)] [.d (.one .bool)] []
noncomputable def Zg8 (a0 : List UInt8) : Option (Bool) := Zh4.f (a0,())
noncomputable def Zqu  (v0 : List UInt8) : Option (Bool) :=
 goL Zht Zln (vleave Zj9 [.d (.one .str)] [.d (.one .bool)] [] []) [.c Zqj]
  ⟨[(0,.str v0)],[]⟩
noncomputable def Ze5  (v0 : List UInt8) (v3 : Int) : Option (Bool) :=
 goL Zht Zln (vleave Zj9 [.d (.one .str)] [.d (.one .bool)] [] []) [.c Zqt,.l Zqa,.e 0,.c Zp8]
  ⟨[(0,.str v0),(3,.int .i64 v3)],[]⟩
theorem Zyo (a0 : List UInt8) : Zg8 a0 =
 if (a0 == []) then
  some false
 else
  if decide ((a0.length : Int) > 10) then
   some false
  else
   (a0[0]?).bind fun x1 =>
    (Ziw (x1.toNat : Int)).bind fun x2 =>
     if (!x2) then
      some false
     else
      Zqu a0 :=
 (mk_f _ _ _ _ _ _ _ 4000).trans (by kernel_rfl)
theorem Zur  (v0 : List UInt8) : Zqu v0 =
 Ze5 v0 0 :=
 (goL_dn _ _ _ 4000 _ _).trans (by kernel_rfl)
theorem Zmg  (v0 : List UInt8) (v3 : Int) : Ze5 v0 v3 =
 if decide (v3 < (v0.length : Int)) then
  if decide (0 ≤ v3) then
   (v0[v3.toNat]?).bind fun x1 =>
    (Ziw (x1.toNat : Int)).bind fun x2 =>
     if (!x2) then
      if decide (0 ≤ v3) then
       (v0[v3.toNat]?).bind fun x3 =>
        (Znj (x3.toNat : Int)).bind fun x4 =>
         if (!x4) then
          some false
         else
          Ze5 v0 (IntKind.i64.wrap (v3 + 1))
      else
       none
     else
      Ze5 v0 (IntKind.i64.wrap (v3 + 1))
  else
   none
 else
  some true :=
 (goL_dn _ _ _ 4000 _ _).trans (by kernel_rfl)
def Zp9 : C :=
 .seq (.seq (.reg false [.V 6 (.mv (.t 5)),.V 7 (.mv (.t 0)),.V 8 (.len (.t 7)),.V 9 (.bin .lss (.t 6) (.t 8))] [0,1,5,9] []) (.cond (.t 9) .skip (.exit 0))) (.seq (.block 1 (.seq (.reg false [.V 12 (.mv (.t 0)),.V 13 (.mv (.t 5)),.V 14 (.ia 2 (.t 12) (.t 13)),.V 15 (.fa 0 (.t 14)),.V 16 (.ld none (.t 15)),.V 17 (.mv (.t 1)),.V 18 (.bin .eql (.t 16) (.t 17))] [0,1,5,18] []) (.cond (.t 18) (.seq (.reg false [.V 19 (.mv (.t 5)),.V 4 (.asg (.t 19))] [4] []) .ret) .skip))) (.reg false [.V 10 (.mv (.t 5)),.V 11 (.bin .add (.t 10) (.c (.int .i64 1))),.V 5 (.asg (.t 11))] [0,1,5] []))
def Zqi : C :=
 .norm [0,1,5] [] Zp9
def Zqz : C :=
 .seq (.reg false [.V 4 (.asg (.c (.int .i64 (-1))))] [4] []) .ret
def Zq7 : Fn := { np := 2,io := [],res := [.t 4],own := [false],body :=
 (.seq (.reg false [.V 4 (.asg (.c (.int .i64 0)))] [0,1] []) (.seq (.seq (.reg false [.V 5 (.asg (.c (.int .i64 0)))] [0,1,5] []) (.block 0 (.loop Zqi))) Zqz)) }
noncomputable def Zlz : List (Nat × Callee) := []
def Zru : List (Nat × ET) := [(7,T_Role),(12,T_Role)]
noncomputable def Zdr : Callee := Zad Zlz Zru Zq7 [.d (.one (.sl T_Role)),.d (.one .str)] [.d (.one (.int .i64))] []
noncomputable def Zcp (a0 : List T_Role.ty) (a1 : List UInt8) : Option (Int) := Zdr.f (a0,a1,())
noncomputable def Zgz  (v0 : List T_Role.ty) (v1 : List UInt8) (v5 : Int) : Option (Int) :=
 goL Zlz Zru (vleave Zq7 [.d (.one (.sl T_Role)),.d (.one .str)] [.d (.one (.int .i64))] [] []) [.c Zp9,.l Zqi,.e 0,.c Zqz]
  ⟨[(0,.sl T_Role v0),(1,.str v1),(5,.int .i64 v5)],[]⟩
theorem Zyt (a0 : List T_Role.ty) (a1 : List UInt8) : Zcp a0 a1 =
 Zgz a0 a1 0 :=
 (mk_f _ _ _ _ _ _ _ 4000).trans (by kernel_rfl)
theorem Zmh  (v0 : List T_Role.ty) (v1 : List UInt8) (v5 : Int) : Zgz v0 v1 v5 =
 if decide (v5 < (v0.length : Int)) then
  if decide (0 ≤ v5) then
   (v0[v5.toNat]?).bind fun x1 =>
    if (x1.1 == v1) then
     some v5
    else
     Zgz v0 v1 (IntKind.i64.wrap (v5 + 1))
  else
   none
 else
  some (-1) :=
 (goL_dn _ _ _ 4000 _ _).trans (by kernel_rfl)
def Zon : C :=
 .seq (.block 5 (.reg false [.V 45 (.mv (.t 5)),.V 46 (.mv (.t 0)),.V 47 (.mv (.t 0)),.V 48 (.mv (.t 7)),.V 49 (.ia 2 (.t 47) (.t 48)),.V 50 (.fa 1 (.t 49)),.V 51 (.ld none (.t 50)),.V 52 (.mv (.t 8)),.V 53 (.ia 1 (.t 51) (.t 52)),.V 54 (.ld none (.t 53)),.V 55 (.call (.c (.fn 740 [])) [.t 46,.t 54]),.V 56 (.ia 1 (.t 45) (.t 55)),⟨none,true,.sto 1 (.t 56) (.c (.bool true)),none,false,[]⟩] [0,1,5,6,7,8] [5])) (.reg false [.V 43 (.mv (.t 8)),.V 44 (.bin .add (.t 43) (.c (.int .i64 1))),.V 8 (.asg (.t 44))] [0,1,5,6,7,8] [5])
def Zo7 : C :=
 .seq (.seq (.reg false [.V 24 (.mv (.t 8)),.V 25 (.mv (.t 0)),.V 26 (.mv (.t 7)),.V 27 (.ia 2 (.t 25) (.t 26)),.V 28 (.fa 1 (.t 27)),.V 29 (.ld none (.t 28)),.V 30 (.len (.t 29)),.V 31 (.bin .lss (.t 24) (.t 30)),.V 32 (.mv (.t 31)),.G 33 (.mv (.t 7)) 8 true,.G 34 (.mv (.t 1)) 8 true,.G 35 (.bin .eql (.t 33) (.t 34)) 8 true,.G 36 (.mv (.t 35)) 8 true,.G 37 (.mv (.t 5)) 12 false,.G 38 (.mv (.t 7)) 12 false,.G 39 (.ia 1 (.t 37) (.t 38)) 12 false,.G 40 (.ld none (.t 39)) 12 false,.G 41 (.pick (.t 36) (.c (.bool true)) (.t 40)) 8 true,.V 42 (.pick (.t 32) (.t 41) (.c (.bool false)))] [0,1,5,6,7,8,42] [5]) (.cond (.t 42) .skip (.exit 4))) (.norm [0,1,5,6,7,8] [5] Zon)
def Zjj : C :=
 .norm [0,1,5,6,7,8] [5] Zo7
def Zi7 : C :=
 .reg false [.V 22 (.mv (.t 7)),.V 23 (.bin .add (.t 22) (.c (.int .i64 1))),.V 7 (.asg (.t 23))] [0,1,5,6,7] [5]
def Zpu : C :=
 .seq (.seq (.reg false [.V 18 (.mv (.t 7)),.V 19 (.mv (.t 0)),.V 20 (.len (.t 19)),.V 21 (.bin .lss (.t 18) (.t 20))] [0,1,5,6,7,21] [5]) (.cond (.t 21) .skip (.exit 2))) (.seq (.block 3 (.seq (.reg false [.V 8 (.asg (.c (.int .i64 0)))] [0,1,5,6,7,8] [5]) (.block 4 (.loop Zjj)))) Zi7)
def Zf5 : C :=
 .norm [0,1,5,6,7] [5] Zpu
def Zfy : C :=
 .reg false [.V 16 (.mv (.t 6)),.V 17 (.bin .add (.t 16) (.c (.int .i64 1))),.V 6 (.asg (.t 17))] [0,1,5,6] [5]
def Zoy : C :=
 .seq (.seq (.reg false [.V 12 (.mv (.t 6)),.V 13 (.mv (.t 0)),.V 14 (.len (.t 13)),.V 15 (.bin .lss (.t 12) (.t 14))] [0,1,5,6,15] [5]) (.cond (.t 15) .skip (.exit 0))) (.seq (.block 1 (.seq (.reg false [.V 7 (.asg (.c (.int .i64 0)))] [0,1,5,6,7] [5]) (.block 2 (.loop Zf5)))) Zfy)
def Zee : C :=
 .norm [0,1,5,6] [5] Zoy
def Zec : C :=
 .seq (.reg false [.V 57 (.mv (.t 5)),.W 4 (.asg (.t 57))] [4] [4,5]) .ret
def Zek : Fn := { np := 2,io := [],res := [.t 4],own := [false],body :=
 (.seq (.reg false [.W 4 (.asg (.c (.nils 1)))] [0,1] []) (.seq (.reg false [.V 9 (.mv (.t 0)),.V 10 (.len (.t 9)),.V 11 (.mks 1 1 (.bool false) (.t 10) (.t 10)),.W 5 (.asg (.t 11))] [0,1,5] [5]) (.seq (.seq (.reg false [.V 6 (.asg (.c (.int .i64 0)))] [0,1,5,6] [5]) (.block 0 (.loop Zee))) Zec))) }
noncomputable def Zdw : List (Nat × Callee) := [(740,Zdr)]
def Zfb : List (Nat × ET) := [(4,(.one .bool)),(5,(.one .bool)),(9,T_Role),(11,(.one .bool)),(13,T_Role),(19,T_Role),(25,T_Role),(29,(.one .str)),(37,(.one .bool)),(45,(.one .bool)),(46,T_Role),(47,T_Role),(51,(.one .str)),(57,(.one .bool))]
noncomputable def Zgw : Callee := Zad Zdw Zfb Zek [.d (.one (.sl T_Role)),.d (.one (.int .i64))] [.d (.one (.sl (.one .bool)))] []
noncomputable def Ziy (a0 : List T_Role.ty) (a1 : Int) : Option (List Bool) := Zgw.f (a0,a1,())
noncomputable def Zen  (v0 : List T_Role.ty) (v1 : Int) (v5n : Nat) (v6 : Int) (r5 : List Bool) : Option (List Bool) :=
 goL Zdw Zfb (vleave Zek [.d (.one (.sl T_Role)),.d (.one (.int .i64))] [.d (.one (.sl (.one .bool)))] [] []) [.c Zoy,.l Zee,.e 0,.c Zec]
  ⟨[(0,.sl T_Role v0),(1,.int .i64 v1),(5,.view 5 0 v5n),(6,.int .i64 v6)],[(5,some (.sl (.one .bool) r5))]⟩
noncomputable def Zds  (v0 : List T_Role.ty) (v1 : Int) (v5n : Nat) (v6 : Int) (v7 : Int) (r5 : List Bool) : Option (List Bool) :=
 goL Zdw Zfb (vleave Zek [.d (.one (.sl T_Role)),.d (.one (.int .i64))] [.d (.one (.sl (.one .bool)))] [] []) [.c Zpu,.l Zf5,.e 2,.e 1,.c Zfy,.l Zee,.e 0,.c Zec]
  ⟨[(0,.sl T_Role v0),(1,.int .i64 v1),(5,.view 5 0 v5n),(6,.int .i64 v6),(7,.int .i64 v7)],[(5,some (.sl (.one .bool) r5))]⟩
noncomputable def Zem  (v0 : List T_Role.ty) (v1 : Int) (v5n : Nat) (v6 : Int) (v7 : Int) (v8 : Int) (r5 : List Bool) : Option (List Bool) :=
 goL Zdw Zfb (vleave Zek [.d (.one (.sl T_Role)),.d (.one (.int .i64))] [.d (.one (.sl (.one .bool)))] [] []) [.c Zo7,.l Zjj,.e 4,.e 3,.c Zi7,.l Zf5,.e 2,.e 1,.c Zfy,.l Zee,.e 0,.c Zec]
  ⟨[(0,.sl T_Role v0),(1,.int .i64 v1),(5,.view 5 0 v5n),(6,.int .i64 v6),(7,.int .i64 v7),(8,.int .i64 v8)],[(5,some (.sl (.one .bool) r5))]⟩
noncomputable def Zgi  (v0 : List T_Role.ty) (v1 : Int) (v5n : Nat) (v6 : Int) (v7 : Int) (v8 : Int) (r5 : List Bool) : Option (List Bool) :=
 goL Zdw Zfb (vleave Zek [.d (.one (.sl T_Role)),.d (.one (.int .i64))] [.d (.one (.sl (.one .bool)))] [] []) [.c Zon,.l Zjj,.e 4,.e 3,.c Zi7,.l Zf5,.e 2,.e 1,.c Zfy,.l Zee,.e 0,.c Zec]
  ⟨[(0,.sl T_Role v0),(1,.int .i64 v1),(5,.view 5 0 v5n),(6,.int .i64 v6),(7,.int .i64 v7),(8,.int .i64 v8)],[(5,some (.sl (.one .bool) r5))]⟩
theorem Zw5 (a0 : List T_Role.ty) (a1 : Int) : Ziy a0 a1 =
 if decide (0 ≤ (a0.length : Int)) && decide ((a0.length : Int) ≤ (a0.length : Int)) && decide ((a0.length : Int).toNat < lim) then
  Zen a0 a1 ((List.replicate ((a0.length : Int).toNat) (false : Bool)).length) 0 (List.replicate ((a0.length : Int).toNat) (false : Bool))
 else
  none :=
 (mk_f _ _ _ _ _ _ _ 4000).trans (by kernel_rfl)
theorem Zlh  (v0 : List T_Role.ty) (v1 : Int) (v5n : Nat) (v6 : Int) (r5 : List Bool) : Zen v0 v1 v5n v6 r5 =
 if decide (v6 < (v0.length : Int)) then
  Zds v0 v1 v5n v6 0 r5
 else
  some (r5.take v5n) :=
 (goL_dn _ _ _ 4000 _ _).trans (by kernel_rfl)
theorem Zk8  (v0 : List T_Role.ty) (v1 : Int) (v5n : Nat) (v6 : Int) (v7 : Int) (r5 : List Bool) : Zds v0 v1 v5n v6 v7 r5 =
 if decide (v7 < (v0.length : Int)) then
  Zem v0 v1 v5n v6 v7 0 r5
 else
  Zen v0 v1 v5n (IntKind.i64.wrap (v6 + 1)) r5 :=
 (goL_dn _ _ _ 4000 _ _).trans (by kernel_rfl)
theorem Zkw  (v0 : List T_Role.ty) (v1 : Int) (v5n : Nat) (v6 : Int) (v7 : Int) (v8 : Int) (r5 : List Bool) : Zem v0 v1 v5n v6 v7 v8 r5 =
 if decide (0 ≤ v7) then
  (v0[v7.toNat]?).bind fun x1 =>
   if decide (v8 < (x1.2.1.length : Int)) then
    if (v7 == v1) then
     Zgi v0 v1 v5n v6 v7 v8 r5
    else
     if decide (0 ≤ v7) && decide (v7 < (v5n : Int)) then
      (r5[v7.toNat]?).bind fun x2 =>
       if x2 then
        Zgi v0 v1 v5n v6 v7 v8 r5
       else
        Zds v0 v1 v5n v6 (IntKind.i64.wrap (v7 + 1)) r5
     else
      none
   else
    Zds v0 v1 v5n v6 (IntKind.i64.wrap (v7 + 1)) r5
 else
  none :=
 (goL_dn _ _ _ 4000 _ _).trans (by kernel_rfl)
theorem Zun  (v0 : List T_Role.ty) (v1 : Int) (v5n : Nat) (v6 : Int) (v7 : Int) (v8 : Int) (r5 : List Bool) : Zgi v0 v1 v5n v6 v7 v8 r5 =
 if decide (0 ≤ v7) then
  (v0[v7.toNat]?).bind fun x1 =>
   if decide (0 ≤ v8) then
    (x1.2.1[v8.toNat]?).bind fun x2 =>
     (Zcp v0 x2).bind fun x3 =>
      if decide (0 ≤ x3) && decide (x3 < (v5n : Int)) then
       (r5[x3.toNat]?).bind fun x4 =>
        Zem v0 v1 v5n v6 v7 (IntKind.i64.wrap (v8 + 1)) (r5.set x3.toNat true)
      else
       none
   else
    none
 else
  none :=
 (goL_dn _ _ _ 4000 _ _).trans (by kernel_rfl)
def Zop : C :=
 .seq (.seq (.reg false [.V 40 (.mv (.t 4)),.V 41 (.mv (.t 0)),.V 42 (.mv (.t 3)),.V 43 (.ia 2 (.t 41) (.t 42)),.V 44 (.fa 1 (.t 43)),.V 45 (.ld none (.t 44)),.V 46 (.len (.t 45)),.V 47 (.bin .lss (.t 40) (.t 46))] [0,3,4,47] []) (.cond (.t 47) .skip (.exit 2))) (.seq (.block 3 (.seq (.reg true [.V 50 (.mv (.t 0)),.V 51 (.mv (.t 0)),.V 52 (.mv (.t 3)),.V 53 (.ia 2 (.t 51) (.t 52)),.V 54 (.fa 1 (.t 53)),.V 55 (.ld none (.t 54)),.V 56 (.mv (.t 4)),.V 57 (.ia 1 (.t 55) (.t 56)),.V 58 (.ld none (.t 57)),.V 59 (.call (.c (.fn 740 [])) [.t 50,.t 58]),.V 60 (.bin .lss (.t 59) (.c (.int .i64 0))),.V 61 (.mv (.t 60)),.G 62 (.mv (.t 4)) 11 false,.G 63 (.bin .gtr (.t 62) (.c (.int .i64 0))) 11 false,.G 64 (.mv (.t 63)) 11 false,.G 65 (.mv (.t 0)) 14 true,.G 66 (.mv (.t 3)) 14 true,.G 67 (.ia 2 (.t 65) (.t 66)) 14 true,.G 68 (.fa 1 (.t 67)) 14 true,.G 69 (.ld none (.t 68)) 14 true,.G 70 (.mv (.t 4)) 14 true,.G 71 (.bin .sub (.t 70) (.c (.int .i64 1))) 14 true,.G 72 (.ia 1 (.t 69) (.t 71)) 14 true,.G 73 (.ld none (.t 72)) 14 true,.G 74 (.mv (.t 0)) 14 true,.G 75 (.mv (.t 3)) 14 true,.G 76 (.ia 2 (.t 74) (.t 75)) 14 true,.G 77 (.fa 1 (.t 76)) 14 true,.G 78 (.ld none (.t 77)) 14 true,.G 79 (.mv (.t 4)) 14 true,.G 80 (.ia 1 (.t 78) (.t 79)) 14 true,.G 81 (.ld none (.t 80)) 14 true,.G 82 (.bin .geq (.t 73) (.t 81)) 14 true,.G 83 (.pick (.t 64) (.t 82) (.c (.bool false))) 11 false,.V 84 (.pick (.t 61) (.c (.bool true)) (.t 83))] [0,3,4,84] []) (.cond (.t 84) (.seq (.reg false [.V 2 (.asg (.c (.bool false)))] [2] []) .ret) .skip))) (.reg false [.V 48 (.mv (.t 4)),.V 49 (.bin .add (.t 48) (.c (.int .i64 1))),.V 4 (.asg (.t 49))] [0,3,4] []))
def Zpd : C :=
 .norm [0,3,4] [] Zop
def Zom : C :=
 .seq (.reg false [.V 4 (.asg (.c (.int .i64 0)))] [0,3,4] []) (.block 2 (.loop Zpd))
def Zje : C :=
 .reg false [.V 13 (.mv (.t 3)),.V 14 (.bin .add (.t 13) (.c (.int .i64 1))),.V 3 (.asg (.t 14))] [0,3] []
def Zph : C :=
 .seq (.seq (.reg false [.V 9 (.mv (.t 3)),.V 10 (.mv (.t 0)),.V 11 (.len (.t 10)),.V 12 (.bin .lss (.t 9) (.t 11))] [0,3,12] []) (.cond (.t 12) .skip (.exit 0))) (.seq (.block 1 (.seq (.seq (.reg true [.V 15 (.mv (.t 0)),.V 16 (.mv (.t 3)),.V 17 (.ia 2 (.t 15) (.t 16)),.V 18 (.fa 0 (.t 17)),.V 19 (.ld none (.t 18)),.V 20 (.call (.c (.fn 13 [])) [.t 19]),.V 21 (.un .not (.t 20)),.V 22 (.mv (.t 21)),.G 23 (.mv (.t 3)) 7 false,.G 24 (.bin .gtr (.t 23) (.c (.int .i64 0))) 7 false,.G 25 (.mv (.t 24)) 7 false,.G 26 (.mv (.t 0)) 10 true,.G 27 (.mv (.t 3)) 10 true,.G 28 (.bin .sub (.t 27) (.c (.int .i64 1))) 10 true,.G 29 (.ia 2 (.t 26) (.t 28)) 10 true,.G 30 (.fa 0 (.t 29)) 10 true,.G 31 (.ld none (.t 30)) 10 true,.G 32 (.mv (.t 0)) 10 true,.G 33 (.mv (.t 3)) 10 true,.G 34 (.ia 2 (.t 32) (.t 33)) 10 true,.G 35 (.fa 0 (.t 34)) 10 true,.G 36 (.ld none (.t 35)) 10 true,.G 37 (.bin .geq (.t 31) (.t 36)) 10 true,.G 38 (.pick (.t 25) (.t 37) (.c (.bool false))) 7 false,.V 39 (.pick (.t 22) (.c (.bool true)) (.t 38))] [0,3,39] []) (.cond (.t 39) (.seq (.reg false [.V 2 (.asg (.c (.bool false)))] [2] []) .ret) .skip)) (.norm [0,3] [] Zom))) Zje)
def Zge : C :=
 .norm [0,3] [] Zph
def Zoo : C :=
 .seq (.seq (.reg false [.V 85 (.mv (.t 5)),.V 86 (.mv (.t 0)),.V 87 (.len (.t 86)),.V 88 (.bin .lss (.t 85) (.t 87))] [0,5,88] []) (.cond (.t 88) .skip (.exit 4))) (.seq (.block 5 (.seq (.reg false [.V 91 (.mv (.t 0)),.V 92 (.mv (.t 5)),.V 93 (.call (.c (.fn 955 [])) [.t 91,.t 92]),.V 94 (.mv (.t 5)),.V 95 (.ia 1 (.t 93) (.t 94)),.V 96 (.ld none (.t 95))] [0,5,96] []) (.cond (.t 96) (.seq (.reg false [.V 2 (.asg (.c (.bool false)))] [2] []) .ret) .skip))) (.reg false [.V 89 (.mv (.t 5)),.V 90 (.bin .add (.t 89) (.c (.int .i64 1))),.V 5 (.asg (.t 90))] [0,5] []))
def Zos : C :=
 .norm [0,5] [] Zoo
def Zpb : C :=
 .seq (.reg false [.V 2 (.asg (.c (.bool true)))] [2] []) .ret
def Zf1 : C :=
 .seq (.seq (.reg false [.V 5 (.asg (.c (.int .i64 0)))] [0,5] []) (.block 4 (.loop Zos))) Zpb
def Zeb : Fn := { np := 1,io := [],res := [.t 2],own := [false],body :=
 (.seq (.reg false [.V 2 (.asg (.c (.bool false)))] [0] []) (.seq (.seq (.reg false [.V 6 (.mv (.t 0)),.V 7 (.len (.t 6)),.V 8 (.bin .gtr (.t 7) (.c (.int .i64 12)))] [0,8] []) (.cond (.t 8) (.seq (.reg false [.V 2 (.asg (.c (.bool false)))] [2] []) .ret) .skip)) (.seq (.seq (.reg false [.V 3 (.asg (.c (.int .i64 0)))] [0,3] []) (.block 0 (.loop Zge))) Zf1))) }
noncomputable def Zdy : List (Nat × Callee) := [(13,Zh4),(740,Zdr),(955,Zgw)]
def Zfc : List (Nat × ET) := [(6,T_Role),(10,T_Role),(15,T_Role),(26,T_Role),(32,T_Role),(41,T_Role),(45,(.one .str)),(50,T_Role),(51,T_Role),(55,(.one .str)),(65,T_Role),(69,(.one .str)),(74,T_Role),(78,(.one .str)),(86,T_Role),(91,T_Role),(93,(.one .bool))]
noncomputable def Zjv : Callee := Zad Zdy Zfc Zeb [.d (.one (.sl T_Role))] [.d (.one .bool)] []
noncomputable def Znl (a0 : List T_Role.ty) : Option (Bool) := Zjv.f (a0,())
noncomputable def Zb4  (v0 : List T_Role.ty) (v3 : Int) : Option (Bool) :=
 goL Zdy Zfc (vleave Zeb [.d (.one (.sl T_Role))] [.d (.one .bool)] [] []) [.c Zph,.l Zge,.e 0,.c Zf1]
  ⟨[(0,.sl T_Role v0),(3,.int .i64 v3)],[]⟩
noncomputable def Zjd  (v0 : List T_Role.ty) (v3 : Int) : Option (Bool) :=
 goL Zdy Zfc (vleave Zeb [.d (.one (.sl T_Role))] [.d (.one .bool)] [] []) [.c Zom,.e 1,.c Zje,.l Zge,.e 0,.c Zf1]
  ⟨[(0,.sl T_Role v0),(3,.int .i64 v3)],[]⟩
noncomputable def Zck  (v0 : List T_Role.ty) (v5 : Int) : Option (Bool) :=
 goL Zdy Zfc (vleave Zeb [.d (.one (.sl T_Role))] [.d (.one .bool)] [] []) [.c Zoo,.l Zos,.e 4,.c Zpb]
  ⟨[(0,.sl T_Role v0),(5,.int .i64 v5)],[]⟩
noncomputable def Zci  (v0 : List T_Role.ty) (v3 : Int) (v4 : Int) : Option (Bool) :=
 goL Zdy Zfc (vleave Zeb [.d (.one (.sl T_Role))] [.d (.one .bool)] [] []) [.c Zop,.l Zpd,.e 2,.e 1,.c Zje,.l Zge,.e 0,.c Zf1]
  ⟨[(0,.sl T_Role v0),(3,.int .i64 v3),(4,.int .i64 v4)],[]⟩
theorem Zx5 (a0 : List T_Role.ty) : Znl a0 =
 if decide ((a0.length : Int) > 12) then
  some false
 else
  Zb4 a0 0 :=
 (mk_f _ _ _ _ _ _ _ 4000).trans (by kernel_rfl)
theorem Zkx  (v0 : List T_Role.ty) (v3 : Int) : Zb4 v0 v3 =
 if decide (v3 < (v0.length : Int)) then
  if decide (0 ≤ v3) then
   (v0[v3.toNat]?).bind fun x1 =>
    (Zg8 x1.1).bind fun x2 =>
     if (!x2) then
      some false
     else
      if decide (v3 > 0) then
       if decide (0 ≤ IntKind.i64.wrap (v3 - 1)) then
        (v0[(IntKind.i64.wrap (v3 - 1)).toNat]?).bind fun x3 =>
         if decide (0 ≤ v3) then
          (v0[v3.toNat]?).bind fun x4 =>
           if (!Op.bytesLess x3.1 x4.1) then
            some false
           else
            Zjd v0 v3
         else
          none
       else
        none
      else
       Zjd v0 v3
  else
   none
 else
  Zck v0 0 :=
 (goL_dn _ _ _ 4000 _ _).trans (by kernel_rfl)
theorem Zua  (v0 : List T_Role.ty) (v3 : Int) : Zjd v0 v3 =
 Zci v0 v3 0 :=
 (goL_dn _ _ _ 4000 _ _).trans (by kernel_rfl)
theorem Zlj  (v0 : List T_Role.ty) (v5 : Int) : Zck v0 v5 =
 if decide (v5 < (v0.length : Int)) then
  (Ziy v0 v5).bind fun x1 =>
   if decide (0 ≤ v5) then
    (x1[v5.toNat]?).bind fun x2 =>
     if x2 then
      some false
     else
      Zck v0 (IntKind.i64.wrap (v5 + 1))
   else
    none
 else
  some true :=
 (goL_dn _ _ _ 4000 _ _).trans (by kernel_rfl)
theorem Zk1  (v0 : List T_Role.ty) (v3 : Int) (v4 : Int) : Zci v0 v3 v4 =
 if decide (0 ≤ v3) then
  (v0[v3.toNat]?).bind fun x1 =>
   if decide (v4 < (x1.2.1.length : Int)) then
    if decide (0 ≤ v3) then
     (v0[v3.toNat]?).bind fun x2 =>
      if decide (0 ≤ v4) then
       (x2.2.1[v4.toNat]?).bind fun x3 =>
        (Zcp v0 x3).bind fun x4 =>
         if decide (x4 < 0) then
          some false
         else
          if decide (v4 > 0) then
           if decide (0 ≤ v3) then
            (v0[v3.toNat]?).bind fun x5 =>
             if decide (0 ≤ IntKind.i64.wrap (v4 - 1)) then
              (x5.2.1[(IntKind.i64.wrap (v4 - 1)).toNat]?).bind fun x6 =>
               if decide (0 ≤ v3) then
                (v0[v3.toNat]?).bind fun x7 =>
                 if decide (0 ≤ v4) then
                  (x7.2.1[v4.toNat]?).bind fun x8 =>
                   if (!Op.bytesLess x6 x8) then
                    some false
                   else
                    Zci v0 v3 (IntKind.i64.wrap (v4 + 1))
                 else
                  none
               else
                none
             else
              none
           else
            none
          else
           Zci v0 v3 (IntKind.i64.wrap (v4 + 1))
      else
       none
    else
     none
   else
    Zb4 v0 (IntKind.i64.wrap (v3 + 1))
 else
  none :=
 (goL_dn _ _ _ 4000 _ _).trans (by kernel_rfl)
def Z1v : Fn := { np := 3,io := [],res := [.t 6],own := [false],body :=
 (.seq (.reg false [.V 6 (.asg (.c (.bool false)))] [0,1,2] []) (.seq (.reg false [.V 7 (.mv (.t 0)),.V 8 (.mv (.t 1)),.V 9 (.bin .geq (.t 7) (.t 8)),.V 10 (.mv (.t 9)),.G 11 (.mv (.t 0)) 3 true,.G 12 (.mv (.t 2)) 3 true,.G 13 (.bin .leq (.t 11) (.t 12)) 3 true,.V 14 (.pick (.t 10) (.t 13) (.c (.bool false))),.V 6 (.asg (.t 14))] [6] []) .ret)) }
noncomputable def Zvh : List (Nat × Callee) := []
def Z18 : List (Nat × ET) := []
noncomputable def Zo1 : Callee := Zad Zvh Z18 Z1v [.d (.one (.int .i64)),.d (.one (.int .i64)),.d (.one (.int .i64))] [.d (.one .bool)] []
noncomputable def Zy8 (a0 : Int) (a1 : Int) (a2 : Int) : Option (Bool) := Zo1.f (a0,a1,a2,())
theorem Ztr (a0 : Int) (a1 : Int) (a2 : Int) : Zy8 a0 a1 a2 =
 if decide (a0 ≥ a1) then
  some (decide (a0 ≤ a2))
 else
  some false :=
 (mk_f _ _ _ _ _ _ _ 4000).trans (by kernel_rfl)
def Zwf : Fn := { np := 1,io := [],res := [.t 2],own := [false],body :=
 (.seq (.reg false [.V 2 (.asg (.c (.bool false)))] [0] []) (.seq (.reg false [.V 3 (.mv (.t 0)),.V 4 (.call (.c (.fn 1 [])) [.t 3,.c (.int .i64 1),.c (.int .i64 3)]),.V 2 (.asg (.t 4))] [2] []) .ret)) }
noncomputable def Zoz : List (Nat × Callee) := [(1,Zo1)]
def Zxg : List (Nat × ET) := []
noncomputable def Zgk : Callee := Zad Zoz Zxg Zwf [.d (.one (.int .i64))] [.d (.one .bool)] []
noncomputable def Zl2 (a0 : Int) : Option (Bool) := Zgk.f (a0,())
theorem Zn5 (a0 : Int) : Zl2 a0 =
 (Zy8 a0 1 3).bind fun x1 =>
  some x1 :=
 (mk_f _ _ _ _ _ _ _ 4000).trans (by kernel_rfl)
def Zzy : Fn := { np := 2,io := [],res := [.t 4],own := [false],body :=
 (.seq (.reg false [.V 4 (.asg (.c (.bool false)))] [0,1] []) (.seq (.reg false [.V 5 (.mv (.t 0)),.V 6 (.mv (.t 1)),.V 7 (.nilck (.t 6)),.V 8 (.fa 0 (.t 7)),.V 9 (.ld none (.t 8)),.V 10 (.call (.c (.fn 740 [])) [.t 5,.t 9]),.V 11 (.bin .geq (.t 10) (.c (.int .i64 0))),.V 12 (.mv (.t 11)),.G 13 (.mv (.t 1)) 7 true,.G 14 (.nilck (.t 13)) 7 true,.G 15 (.fa 1 (.t 14)) 7 true,.G 16 (.ld none (.t 15)) 7 true,.G 17 (.call (.c (.fn 13 [])) [.t 16]) 7 true,.V 18 (.pick (.t 12) (.t 17) (.c (.bool false))),.V 19 (.mv (.t 18)),.G 20 (.mv (.t 1)) 14 true,.G 21 (.nilck (.t 20)) 14 true,.G 22 (.fa 2 (.t 21)) 14 true,.G 23 (.ld none (.t 22)) 14 true,.G 24 (.call (.c (.fn 742 [])) [.t 23]) 14 true,.V 25 (.pick (.t 19) (.t 24) (.c (.bool false))),.V 4 (.asg (.t 25))] [4] []) .ret)) }
noncomputable def Zti : List (Nat × Callee) := [(13,Zh4),(740,Zdr),(742,Zgk)]
def Z1x : List (Nat × ET) := [(5,T_Role)]
noncomputable def Ziz : Callee := Zad Zti Z1x Zzy [.d (.one (.sl T_Role)),.p Zaa] [.d (.one .bool)] []
noncomputable def Zmd (a0 : List T_Role.ty) (a1 : Zaa.ty) : Option (Bool) := Ziz.f (a0,a1,())
theorem Zzs (a0 : List T_Role.ty) (a1 : Zaa.ty) : Zmd a0 a1 =
 (Zcp a0 a1.1).bind fun x1 =>
  if decide (x1 ≥ 0) then
   (Zg8 a1.2.1).bind fun x2 =>
    if x2 then
     (Zl2 a1.2.2.1).bind fun x3 =>
      some x3
    else
     some false
  else
   some false :=
 (mk_f _ _ _ _ _ _ _ 4000).trans (by kernel_rfl)
def Zv6 : Fn := { np := 2,io := [],res := [.t 4],own := [false],body :=
 (.seq (.reg false [.V 4 (.asg (.c (.bool false)))] [0,1] []) (.seq (.seq (.reg true [.V 5 (.mv (.t 0)),.V 6 (.nilck (.t 5)),.V 7 (.fa 0 (.t 6)),.V 8 (.ld none (.t 7)),.V 9 (.mv (.t 1)),.V 10 (.nilck (.t 9)),.V 11 (.fa 0 (.t 10)),.V 12 (.ld none (.t 11)),.V 13 (.bin .neq (.t 8) (.t 12))] [0,1,13] []) (.cond (.t 13) (.seq (.reg true [.V 14 (.mv (.t 0)),.V 15 (.nilck (.t 14)),.V 16 (.fa 0 (.t 15)),.V 17 (.ld none (.t 16)),.V 18 (.mv (.t 1)),.V 19 (.nilck (.t 18)),.V 20 (.fa 0 (.t 19)),.V 21 (.ld none (.t 20)),.V 22 (.bin .lss (.t 17) (.t 21)),.V 4 (.asg (.t 22))] [4] []) .ret) .skip)) (.seq (.seq (.reg true [.V 23 (.mv (.t 0)),.V 24 (.nilck (.t 23)),.V 25 (.fa 1 (.t 24)),.V 26 (.ld none (.t 25)),.V 27 (.mv (.t 1)),.V 28 (.nilck (.t 27)),.V 29 (.fa 1 (.t 28)),.V 30 (.ld none (.t 29)),.V 31 (.bin .neq (.t 26) (.t 30))] [0,1,31] []) (.cond (.t 31) (.seq (.reg true [.V 32 (.mv (.t 0)),.V 33 (.nilck (.t 32)),.V 34 (.fa 1 (.t 33)),.V 35 (.ld none (.t 34)),.V 36 (.mv (.t 1)),.V 37 (.nilck (.t 36)),.V 38 (.fa 1 (.t 37)),.V 39 (.ld none (.t 38)),.V 40 (.bin .lss (.t 35) (.t 39)),.V 4 (.asg (.t 40))] [4] []) .ret) .skip)) (.seq (.reg true [.V 41 (.mv (.t 0)),.V 42 (.nilck (.t 41)),.V 43 (.fa 2 (.t 42)),.V 44 (.ld none (.t 43)),.V 45 (.mv (.t 1)),.V 46 (.nilck (.t 45)),.V 47 (.fa 2 (.t 46)),.V 48 (.ld none (.t 47)),.V 49 (.bin .lss (.t 44) (.t 48)),.V 4 (.asg (.t 49))] [4] []) .ret)))) }
noncomputable def Zpx : List (Nat × Callee) := []
def Zw7 : List (Nat × ET) := []
noncomputable def Zfw : Callee := Zad Zpx Zw7 Zv6 [.p Zaa,.p Zaa] [.d (.one .bool)] []
noncomputable def Zhy (a0 : Zaa.ty) (a1 : Zaa.ty) : Option (Bool) := Zfw.f (a0,a1,())
theorem Zv7 (a0 : Zaa.ty) (a1 : Zaa.ty) : Zhy a0 a1 =
 if (!(a0.1 == a1.1)) then
  some (Op.bytesLess a0.1 a1.1)
 else
  if (!(a0.2.1 == a1.2.1)) then
   some (Op.bytesLess a0.2.1 a1.2.1)
  else
   some (decide (a0.2.2.1 < a1.2.2.1)) :=
 (mk_f _ _ _ _ _ _ _ 4000).trans (by kernel_rfl)
def Ztp : C :=
 .seq (.seq (.reg false [.V 14 (.mv (.t 5)),.V 15 (.mv (.t 1)),.V 16 (.len (.t 15)),.V 17 (.bin .lss (.t 14) (.t 16))] [0,1,5,17] []) (.cond (.t 17) .skip (.exit 0))) (.seq (.block 1 (.seq (.reg true [.V 20 (.mv (.t 0)),.V 21 (.mv (.t 1)),.V 22 (.mv (.t 5)),.V 23 (.ia 3 (.t 21) (.t 22)),.V 24 (.call (.c (.fn 952 [])) [.t 20,.t 23]),.V 25 (.un .not (.t 24)),.V 26 (.mv (.t 25)),.G 27 (.mv (.t 5)) 6 false,.G 28 (.bin .gtr (.t 27) (.c (.int .i64 0))) 6 false,.G 29 (.mv (.t 28)) 6 false,.G 30 (.mv (.t 1)) 9 true,.G 31 (.mv (.t 5)) 9 true,.G 32 (.bin .sub (.t 31) (.c (.int .i64 1))) 9 true,.G 33 (.ia 3 (.t 30) (.t 32)) 9 true,.G 34 (.mv (.t 1)) 9 true,.G 35 (.mv (.t 5)) 9 true,.G 36 (.ia 3 (.t 34) (.t 35)) 9 true,.G 37 (.call (.c (.fn 953 [])) [.t 33,.t 36]) 9 true,.G 38 (.un .not (.t 37)) 9 true,.G 39 (.pick (.t 29) (.t 38) (.c (.bool false))) 6 false,.V 40 (.pick (.t 26) (.c (.bool true)) (.t 39))] [0,1,5,40] []) (.cond (.t 40) (.seq (.reg false [.V 4 (.asg (.c (.bool false)))] [4] []) .ret) .skip))) (.reg false [.V 18 (.mv (.t 5)),.V 19 (.bin .add (.t 18) (.c (.int .i64 1))),.V 5 (.asg (.t 19))] [0,1,5] []))
def Ztm : C :=
 .norm [0,1,5] [] Ztp
def Ztf : C :=
 .seq (.reg false [.V 4 (.asg (.c (.bool true)))] [4] []) .ret
def Ztt : C :=
 .seq (.seq (.reg false [.V 5 (.asg (.c (.int .i64 0)))] [0,1,5] []) (.block 0 (.loop Ztm))) Ztf
def Zna : Fn := { np := 2,io := [],res := [.t 4],own := [false],body :=
 (.seq (.reg false [.V 4 (.asg (.c (.bool false)))] [0,1] []) (.seq (.seq (.reg false [.V 6 (.mv (.t 0)),.V 7 (.call (.c (.fn 954 [])) [.t 6]),.V 8 (.un .not (.t 7)),.V 9 (.mv (.t 8)),.G 10 (.mv (.t 1)) 3 false,.G 11 (.len (.t 10)) 3 false,.G 12 (.bin .gtr (.t 11) (.c (.int .i64 48))) 3 false,.V 13 (.pick (.t 9) (.c (.bool true)) (.t 12))] [0,1,13] []) (.cond (.t 13) (.seq (.reg false [.V 4 (.asg (.c (.bool false)))] [4] []) .ret) .skip)) (.norm [0,1] [] Ztt))) }
noncomputable def Zj5 : List (Nat × Callee) := [(952,Ziz),(953,Zfw),(954,Zjv)]
def Zot : List (Nat × ET) := [(6,T_Role),(10,Zaa),(15,Zaa),(20,T_Role),(21,Zaa),(30,Zaa),(34,Zaa)]
noncomputable def Zfl : Callee := Zad Zj5 Zot Zna [.d (.one (.sl T_Role)),.d (.one (.sl Zaa))] [.d (.one .bool)] []
noncomputable def Zh1 (a0 : List T_Role.ty) (a1 : List Zaa.ty) : Option (Bool) := Zfl.f (a0,a1,())
noncomputable def Ztb  (v0 : List T_Role.ty) (v1 : List Zaa.ty) : Option (Bool) :=
 goL Zj5 Zot (vleave Zna [.d (.one (.sl T_Role)),.d (.one (.sl Zaa))] [.d (.one .bool)] [] []) [.c Ztt]
  ⟨[(0,.sl T_Role v0),(1,.sl Zaa v1)],[]⟩
noncomputable def Zdk  (v0 : List T_Role.ty) (v1 : List Zaa.ty) (v5 : Int) : Option (Bool) :=
 goL Zj5 Zot (vleave Zna [.d (.one (.sl T_Role)),.d (.one (.sl Zaa))] [.d (.one .bool)] [] []) [.c Ztp,.l Ztm,.e 0,.c Ztf]
  ⟨[(0,.sl T_Role v0),(1,.sl Zaa v1),(5,.int .i64 v5)],[]⟩
theorem Z17 (a0 : List T_Role.ty) (a1 : List Zaa.ty) : Zh1 a0 a1 =
 (Znl a0).bind fun x1 =>
  if (!x1) then
   some false
  else
   if decide ((a1.length : Int) > 48) then
    some false
   else
    Ztb a0 a1 :=
 (mk_f _ _ _ _ _ _ _ 4000).trans (by kernel_rfl)
theorem Zxe  (v0 : List T_Role.ty) (v1 : List Zaa.ty) : Ztb v0 v1 =
 Zdk v0 v1 0 :=
 (goL_dn _ _ _ 4000 _ _).trans (by kernel_rfl)
theorem Zpj  (v0 : List T_Role.ty) (v1 : List Zaa.ty) (v5 : Int) : Zdk v0 v1 v5 =
 if decide (v5 < (v1.length : Int)) then
  if decide (0 ≤ v5) then
   (v1[v5.toNat]?).bind fun x1 =>
    (Zmd v0 x1).bind fun x2 =>
     if (!x2) then
      some false
     else
      if decide (v5 > 0) then
       if decide (0 ≤ IntKind.i64.wrap (v5 - 1)) then
        (v1[(IntKind.i64.wrap (v5 - 1)).toNat]?).bind fun x3 =>
         if decide (0 ≤ v5) then
          (v1[v5.toNat]?).bind fun x4 =>
           (Zhy x3 x4).bind fun x5 =>
            if (!x5) then
             some false
            else
             Zdk v0 v1 (IntKind.i64.wrap (v5 + 1))
         else
          none
       else
        none
      else
       Zdk v0 v1 (IntKind.i64.wrap (v5 + 1))
  else
   none
 else
  some true :=
 (goL_dn _ _ _ 4000 _ _).trans (by kernel_rfl)
def Zpv : C :=
 .seq (.seq (.reg false [.V 17 (.mv (.t 8)),.V 18 (.mv (.t 1)),.V 19 (.len (.t 18)),.V 20 (.bin .lss (.t 17) (.t 19)),.V 21 (.mv (.t 20)),.G 22 (.mv (.t 1)) 4 true,.G 23 (.mv (.t 8)) 4 true,.G 24 (.ia 3 (.t 22) (.t 23)) 4 true,.G 25 (.call (.c (.fn 953 [])) [.t 24,.t 5]) 4 true,.V 26 (.pick (.t 21) (.t 25) (.c (.bool false)))] [1,5,8,26] [5]) (.cond (.t 26) .skip (.exit 0))) (.block 1 (.reg false [.V 27 (.mv (.t 8)),.V 28 (.bin .add (.t 27) (.c (.int .i64 1))),.V 8 (.asg (.t 28))] [1,5,8] [5]))
def Zpz : C :=
 .norm [1,5,8] [5] Zpv
def Zpn : C :=
 .seq (.seq (.reg false [.V 41 (.mv (.t 1)),.V 42 (.len (.t 41)),.V 43 (.bin .eql (.t 42) (.c (.int .i64 48)))] [1,5,8,43] [5]) (.cond (.t 43) (.seq (.reg false [.W 6 (.asg (.c (.nils 3))),.V 7 (.asg (.c (.int .i64 5)))] [6,7] [6]) .ret) .skip)) (.seq (.reg false [.V 44 (.bsl 3 (.agg [.str [],.str [],.int .i64 0]) 0 []),.V 45 (.mv (.t 1)),.V 46 (.mv (.t 8)),.V 47 (.slc 3 (.t 45) none (some (.t 46))),.W 48 (.app 3 40 (.t 44) (.t 47)),.W 9 (.asg (.t 48))] [1,5,8,9] [5,9]) (.seq (.reg false [.V 49 (.mv (.t 9)),.V 50 (.ld (some 3) (.t 5)),.V 51 (.bsl 3 (.agg [.str [],.str [],.int .i64 0]) 1 [(0,.t 50)]),.W 52 (.app 3 40 (.t 49) (.t 51)),.W 9 (.asg (.t 52))] [1,8,9] [9]) (.seq (.reg false [.V 53 (.mv (.t 9)),.V 54 (.mv (.t 1)),.V 55 (.mv (.t 8)),.V 56 (.slc 3 (.t 54) (some (.t 55)) none),.W 57 (.app 3 40 (.t 53) (.t 56)),.W 6 (.asg (.t 57)),.V 7 (.asg (.c (.int .i64 0)))] [6,7] [6]) .ret)))
def Zpm : C :=
 .seq (.seq (.reg true [.V 29 (.mv (.t 8)),.V 30 (.mv (.t 1)),.V 31 (.len (.t 30)),.V 32 (.bin .lss (.t 29) (.t 31)),.V 33 (.mv (.t 32)),.G 34 (.mv (.t 1)) 4 true,.G 35 (.mv (.t 8)) 4 true,.G 36 (.ia 3 (.t 34) (.t 35)) 4 true,.G 37 (.ld (some 3) (.t 36)) 4 true,.G 38 (.ld (some 3) (.t 5)) 4 true,.G 39 (.eqs false [.s,.s,.i] (.t 37) (.t 38)) 4 true,.V 40 (.pick (.t 33) (.t 39) (.c (.bool false)))] [1,5,8,40] [5]) (.cond (.t 40) (.seq (.reg false [.W 6 (.asg (.c (.nils 3))),.V 7 (.asg (.c (.int .i64 4)))] [6,7] [6]) .ret) .skip)) (.norm [1,5,8] [5] Zpn)
def Zor : C :=
 .norm [1,5,8] [5] Zpm
def Zf4 : Fn := { np := 3,io := [],res := [.t 6,.t 7],own := [true,false],body :=
 (.seq (.reg false [.W 5 (.box 3 (.t 2)),.W 6 (.asg (.c (.nils 3))),.V 7 (.asg (.c (.int .i64 0)))] [0,1,5] [5]) (.seq (.seq (.reg false [.V 10 (.mv (.t 0)),.V 11 (.mv (.t 1)),.V 12 (.call (.c (.fn 739 [])) [.t 10,.t 11]),.V 13 (.un .not (.t 12))] [0,1,5,13] [5]) (.cond (.t 13) (.seq (.reg false [.W 6 (.asg (.c (.nils 3))),.V 7 (.asg (.c (.int .i64 1)))] [6,7] [6]) .ret) .skip)) (.seq (.seq (.reg false [.V 14 (.mv (.t 0)),.V 15 (.call (.c (.fn 952 [])) [.t 14,.t 5]),.V 16 (.un .not (.t 15))] [1,5,16] [5]) (.cond (.t 16) (.seq (.reg false [.W 6 (.asg (.c (.nils 3))),.V 7 (.asg (.c (.int .i64 2)))] [6,7] [6]) .ret) .skip)) (.seq (.reg false [.V 8 (.asg (.c (.int .i64 0)))] [1,5,8] [5]) (.seq (.block 0 (.loop Zpz)) Zor))))) }
noncomputable def Zfe : List (Nat × Callee) := [(739,Zfl),(952,Ziz),(953,Zfw)]
def Zgt : List (Nat × ET) := [(6,Zaa),(9,Zaa),(10,T_Role),(11,Zaa),(14,T_Role),(18,Zaa),(22,Zaa),(30,Zaa),(34,Zaa),(41,Zaa),(44,Zaa),(45,Zaa),(47,Zaa),(48,Zaa),(49,Zaa),(51,Zaa),(52,Zaa),(53,Zaa),(54,Zaa),(56,Zaa),(57,Zaa)]
noncomputable def Zke : Callee := Zad Zfe Zgt Zf4 [.d (.one (.sl T_Role)),.d (.one (.sl Zaa)),.d Zaa] [.tok Zaa,.d (.one (.int .i64))] []
noncomputable def Zi1 (a0 : List T_Role.ty) (a1 : List Zaa.ty) (a2 : Zaa.ty) : Option (List Zaa.ty × Int) := Zke.f (a0,a1,a2,())
noncomputable def Zfz  (v1 : List Zaa.ty) (v8 : Int) (r5_0 : List UInt8) (r5_1 : List UInt8) (r5_2 : Int) : Option (List Zaa.ty × Int) :=
 goL Zfe Zgt (vleave Zf4 [.d (.one (.sl T_Role)),.d (.one (.sl Zaa)),.d Zaa] [.tok Zaa,.d (.one (.int .i64))] [] []) [.c Zpv,.l Zpz,.e 0,.c Zor]
  ⟨[(1,.sl Zaa v1),(5,.loc 5 0 0),(8,.int .i64 v8)],[(5,some (.var 3 (.agg [.str r5_0,.str r5_1,.int .i64 r5_2])))]⟩
noncomputable def Zga  (v1 : List Zaa.ty) (v8 : Int) (r5_0 : List UInt8) (r5_1 : List UInt8) (r5_2 : Int) : Option (List Zaa.ty × Int) :=
 goL Zfe Zgt (vleave Zf4 [.d (.one (.sl T_Role)),.d (.one (.sl Zaa)),.d Zaa] [.tok Zaa,.d (.one (.int .i64))] [] []) [.c Zpm]
  ⟨[(1,.sl Zaa v1),(5,.loc 5 0 0),(8,.int .i64 v8)],[(5,some (.var 3 (.agg [.str r5_0,.str r5_1,.int .i64 r5_2])))]⟩
noncomputable def Zgg  (v1 : List Zaa.ty) (v8 : Int) (r5_0 : List UInt8) (r5_1 : List UInt8) (r5_2 : Int) : Option (List Zaa.ty × Int) :=
 goL Zfe Zgt (vleave Zf4 [.d (.one (.sl T_Role)),.d (.one (.sl Zaa)),.d Zaa] [.tok Zaa,.d (.one (.int .i64))] [] []) [.c Zpn]
  ⟨[(1,.sl Zaa v1),(5,.loc 5 0 0),(8,.int .i64 v8)],[(5,some (.var 3 (.agg [.str r5_0,.str r5_1,.int .i64 r5_2])))]⟩
theorem Zx9 (a0 : List T_Role.ty) (a1 : List Zaa.ty) (a2 : Zaa.ty) : Zi1 a0 a1 a2 =
 (Zh1 a0 a1).bind fun x1 =>
  if (!x1) then
   some ([],1)
  else
   (Zmd a0 a2).bind fun x2 =>
    if (!x2) then
     some ([],2)
    else
     Zfz a1 0 a2.1 a2.2.1 a2.2.2.1 :=
 (mk_f _ _ _ _ _ _ _ 4000).trans (by kernel_rfl)
theorem Zk2  (v1 : List Zaa.ty) (v8 : Int) (r5_0 : List UInt8) (r5_1 : List UInt8) (r5_2 : Int) : Zfz v1 v8 r5_0 r5_1 r5_2 =
 if decide (v8 < (v1.length : Int)) then
  if decide (0 ≤ v8) then
   (v1[v8.toNat]?).bind fun x1 =>
    (Zhy x1 (r5_0,r5_1,r5_2,())).bind fun x2 =>
     if x2 then
      Zfz v1 (IntKind.i64.wrap (v8 + 1)) r5_0 r5_1 r5_2
     else
      Zga v1 v8 r5_0 r5_1 r5_2
  else
   none
 else
  Zga v1 v8 r5_0 r5_1 r5_2 :=
 (goL_dn _ _ _ 4000 _ _).trans (by kernel_rfl)
theorem Ztx  (v1 : List Zaa.ty) (v8 : Int) (r5_0 : List UInt8) (r5_1 : List UInt8) (r5_2 : Int) : Zga v1 v8 r5_0 r5_1 r5_2 =
 if decide (v8 < (v1.length : Int)) then
  if decide (0 ≤ v8) then
   (v1[v8.toNat]?).bind fun x1 =>
    if ((x1.1 == r5_0) && ((x1.2.1 == r5_1) && (x1.2.2.1 == r5_2))) then
     some ([],4)
    else
     Zgg v1 v8 r5_0 r5_1 r5_2
  else
   none
 else
  Zgg v1 v8 r5_0 r5_1 r5_2 :=
 (goL_dn _ _ _ 4000 _ _).trans (by kernel_rfl)
theorem Zup  (v1 : List Zaa.ty) (v8 : Int) (r5_0 : List UInt8) (r5_1 : List UInt8) (r5_2 : Int) : Zgg v1 v8 r5_0 r5_1 r5_2 =
 if ((v1.length : Int) == 48) then
  some ([],5)
 else
  if decide (0 ≤ v8) && decide (v8 ≤ (v1.length : Int)) then
   if decide (0 + (v1.take v8.toNat).length < lim) then
    if decide (([] ++ (v1.take v8.toNat)).length + 1 < lim) then
     if decide (0 ≤ v8) && decide (v8 ≤ (v1.length : Int)) then
      if decide (((([] ++ (v1.take v8.toNat)).take (([] ++ (v1.take v8.toNat)).length)) ++ [(r5_0,r5_1,r5_2,())]).length + (v1.drop v8.toNat).length < lim) then
       some ((((((([] ++ (v1.take v8.toNat)).take (([] ++ (v1.take v8.toNat)).length)) ++ [(r5_0,r5_1,r5_2,())]).take (((([] ++ (v1.take v8.toNat)).take (([] ++ (v1.take v8.toNat)).length)) ++ [(r5_0,r5_1,r5_2,())]).length)) ++ (v1.drop v8.toNat)).take (((((([] ++ (v1.take v8.toNat)).take (([] ++ (v1.take v8.toNat)).length)) ++ [(r5_0,r5_1,r5_2,())]).take (((([] ++ (v1.take v8.toNat)).take (([] ++ (v1.take v8.toNat)).length)) ++ [(r5_0,r5_1,r5_2,())]).length)) ++ (v1.drop v8.toNat)).length)),0)
      else
       none
     else
      none
    else
     none
   else
    none
  else
   none :=
 (goL_dn _ _ _ 4000 _ _).trans (by kernel_rfl)
def Zq8 : C :=
 .seq (.seq (.reg false [.V 16 (.mv (.t 6)),.V 17 (.bin .gtr (.t 16) (.c (.int .i64 0)))] [0,4,5,6,17] [0,4,5,7,1000,4000005]) (.cond (.t 17) .skip (.exit 0))) (.seq (.block 1 (.seq (.reg false [.V 21 (.mv (.t 4)),.V 22 (.mv (.t 5)),.V 23 (.mv (.t 0)),.V 24 (.mv (.t 4)),.W 25 (.call (.c (.fn 729 [])) [.t 23,.t 24]),.V 26 (.call (.c (.fn 948 [])) [.t 21,.t 22,.t 25]),.V 20 (.mv (.t 26)),.V 27 (.ext (.t 20) 0),.V 28 (.ext (.t 20) 1),.W 7 (.asg (.t 27)),.V 8 (.asg (.t 28))] [0,4,5,6,7,8] [0,4,5,7,1000,4000005]) (.seq (.reg false [.V 29 (.mv (.t 8)),.V 30 (.bin .eql (.t 29) (.c (.int .i64 0)))] [0,4,5,6,7,30] [0,4,5,7,1000,4000005]) (.cond (.t 30) (.reg false [.V 31 (.mv (.t 7)),.W 5 (.asg (.t 31))] [0,4,5,6] [0,4,5,7,1000,4000005]) .skip)))) (.reg false [.V 18 (.mv (.t 6)),.V 19 (.bin .sub (.t 18) (.c (.int .i64 1))),.V 6 (.asg (.t 19))] [0,4,5,6] [0,4,5,7,1000,4000005]))
def Zq1 : C :=
 .opn 7000005 (.norm [0,4,5,6] [0,4,1000,4000005] Zq8)
def Zqh : C :=
 .seq (.block 4 (.reg true [.V 58 (.mv (.t 5)),.V 59 (.mv (.t 4)),.V 60 (.ia 2 (.t 59) (.c (.int .i64 0))),.V 61 (.fa 0 (.t 60)),.V 62 (.ld none (.t 61)),.V 63 (.mv (.t 10)),.V 64 (.bin .quo (.t 63) (.c (.int .i64 3))),.V 65 (.bin .add (.c (.int .i64 97)) (.t 64)),.V 66 (.conv (.int .u8) (.t 65)),.V 67 (.bsl 1 (.int .u8 0) 1 [(0,.t 66)]),.V 68 (.conv .bytesStr (.t 67)),.V 69 (.bin .add (.c (.str [111])) (.t 68)),.V 70 (.mv (.t 10)),.V 71 (.bin .rem (.t 70) (.c (.int .i64 3))),.V 72 (.bin .add (.c (.int .i64 1)) (.t 71)),.V 73 (.build [.str [],.str [],.int .i64 0] [(0,1,.t 62),(1,1,.t 69),(2,1,.t 72)]),.V 74 (.bsl 3 (.agg [.str [],.str [],.int .i64 0]) 1 [(0,.t 73)]),.W 75 (.app 3 40 (.t 58) (.t 74)),.W 5 (.asg (.t 75))] [0,4,5,9,10] [0,4,5,7,1000,4000005])) (.reg false [.V 56 (.mv (.t 10)),.V 57 (.bin .add (.t 56) (.c (.int .i64 1))),.V 10 (.asg (.t 57))] [0,4,5,9,10] [0,4,5,7,1000,4000005])
def Zq4 : C :=
 .seq (.seq (.reg false [.V 48 (.mv (.t 10)),.V 49 (.mv (.t 9)),.V 50 (.bin .lss (.t 48) (.t 49)),.V 51 (.mv (.t 50)),.G 52 (.mv (.t 4)) 3 true,.G 53 (.len (.t 52)) 3 true,.G 54 (.bin .gtr (.t 53) (.c (.int .i64 0))) 3 true,.V 55 (.pick (.t 51) (.t 54) (.c (.bool false)))] [0,4,5,9,10,55] [0,4,5,7,1000,4000005]) (.cond (.t 55) .skip (.exit 3))) (.norm [0,4,5,9,10] [0,4,5,7,1000,4000005] Zqh)
def Zj8 : C :=
 .opn 7000005 (.norm [0,4,5,9,10] [0,4,1000,4000005] Zq4)
def Zkg : C :=
 .seq (.reg false [.V 76 (.mv (.t 4)),.V 77 (.mv (.t 5)),.W 2 (.asg (.t 76)),.W 3 (.asg (.t 77))] [0,2,3] [0,2,3,4,5,7,1000,4000005]) .ret
def Zqb : C :=
 .seq (.seq (.reg false [.V 32 (.mv (.t 0)),.W 33 (.call (.c (.fn 463 [])) [.t 32,.c (.int .i64 20)])] [0,4,5,33] [0,4,5,7,1000,4000005]) (.block 2 (.seq (.reg false [.V 35 (.bin .eql (.t 33) (.c (.int .i64 0))),.V 34 (.asg (.t 35))] [0,4,5,33,34] [0,4,5,7,1000,4000005]) (.cond (.t 34) (.reg false [.V 36 (.mv (.t 5)),.V 37 (.mv (.t 0)),.V 38 (.mv (.t 4)),.W 39 (.call (.c (.fn 729 [])) [.t 37,.t 38]),.V 40 (.bsl 3 (.agg [.str [],.str [],.int .i64 0]) 1 [(0,.t 39)]),.W 41 (.app 3 40 (.t 36) (.t 40)),.W 5 (.asg (.t 41))] [0,4,5] [0,4,5,7,1000,4000005]) (.seq (.reg false [.V 43 (.bin .eql (.t 33) (.c (.int .i64 1))),.V 42 (.asg (.t 43))] [0,4,5,42] [0,4,5,7,1000,4000005]) (.cond (.t 42) (.seq (.reg false [.V 44 (.mv (.t 0)),.V 45 (.bsl 1 (.int .i64 0) 2 [(0,.c (.int .i64 48)),(1,.c (.int .i64 49))]),.W 46 (.call (.c (.fn 445 [])) [.t 44,.t 45]),.V 9 (.asg (.t 46))] [0,4,9] [0,4,1000]) (.seq (.reg false [.V 47 (.bsl 3 (.agg [.str [],.str [],.int .i64 0]) 0 []),.W 5 (.asg (.t 47))] [0,4,5,9] [0,4,5,7,1000,4000005]) (.seq (.reg false [.V 10 (.asg (.c (.int .i64 0)))] [0,4,5,9,10] [0,4,5,7,1000,4000005]) (.block 3 (.loop Zj8))))) .skip)))))) Zkg
def Zgx : Fn := { np := 1,io := [true],res := [.t 2,.t 3],own := [false,true],body :=
 (.seq (.reg false [.W 2 (.asg (.c (.nils 2))),.W 3 (.asg (.c (.nils 3)))] [0] [0,1000]) (.seq (.reg false [.V 11 (.mv (.t 0)),.W 12 (.call (.c (.fn 949 [])) [.t 11]),.W 4 (.asg (.t 12))] [0,4] [0,4,1000]) (.seq (.reg false [.V 13 (.bsl 3 (.agg [.str [],.str [],.int .i64 0]) 0 []),.W 5 (.asg (.t 13))] [0,4,5] [0,4,5,7,1000,4000005]) (.seq (.seq (.reg false [.V 14 (.mv (.t 0)),.W 15 (.call (.c (.fn 463 [])) [.t 14,.c (.int .i64 9)]),.V 6 (.asg (.t 15))] [0,4,5,6] [0,4,5,7,1000,4000005]) (.block 0 (.loop Zq1))) Zqb)))) }
noncomputable def Zfo : List (Nat × Callee) := [(445,Zeq),(463,Zcj),(729,Zd2),(948,Zke),(949,Zgo)]
def Zhv : List (Nat × ET) := [(2,T_Role),(3,Zaa),(4,T_Role),(5,Zaa),(7,Zaa),(12,T_Role),(13,Zaa),(21,T_Role),(22,Zaa),(24,T_Role),(27,Zaa),(31,Zaa),(36,Zaa),(38,T_Role),(40,Zaa),(41,Zaa),(45,(.one (.int .i64))),(47,Zaa),(52,T_Role),(58,Zaa),(59,T_Role),(67,(.one (.int .u8))),(74,Zaa),(75,Zaa),(76,T_Role),(77,Zaa)]
noncomputable def Zhz : Callee := Zad Zfo Zhv Zgx [.box Zab] [.d (.one (.sl T_Role)),.tok Zaa] [.box Zab]
noncomputable def Zko (a0 : Zab.ty) : Option (List T_Role.ty × List Zaa.ty × Zab.ty) := Zhz.f (a0,())
noncomputable def Ze6  (v4 : List T_Role.ty) (v6 : Int) (r0_0 : List Int) (r0_1 : Int) (r0_2 : Int) (r4000005 : List Zaa.ty) : Option (List T_Role.ty × List Zaa.ty × Zab.ty) :=
 goL Zfo Zhv (vleave Zgx [.box Zab] [.d (.one (.sl T_Role)),.tok Zaa] [.box Zab] []) [.c Zq8,.l Zq1,.e 0,.c Zqb]
  ⟨[(0,.loc 0 0 0),(4,.sl T_Role v4),(5,.view 4000005 0 r4000005.length),(6,.int .i64 v6)],[(0,some (.var 3 (.agg [.sl (.one (.int .u8)) r0_0,.int .i64 r0_1,.int .u64 r0_2]))),(4,none),(1000,none),(4000005,some (.sl Zaa r4000005))]⟩
noncomputable def Zg0  (v4 : List T_Role.ty) (v9 : Int) (v10 : Int) (r0_0 : List Int) (r0_1 : Int) (r0_2 : Int) (r4000005 : List Zaa.ty) : Option (List T_Role.ty × List Zaa.ty × Zab.ty) :=
 goL Zfo Zhv (vleave Zgx [.box Zab] [.d (.one (.sl T_Role)),.tok Zaa] [.box Zab] []) [.c Zq4,.l Zj8,.e 3,.e 2,.c Zkg]
  ⟨[(0,.loc 0 0 0),(4,.sl T_Role v4),(5,.view 4000005 0 r4000005.length),(9,.int .i64 v9),(10,.int .i64 v10)],[(0,some (.var 3 (.agg [.sl (.one (.int .u8)) r0_0,.int .i64 r0_1,.int .u64 r0_2]))),(4,none),(1000,none),(4000005,some (.sl Zaa r4000005))]⟩
noncomputable def Zqd  (v4 : List T_Role.ty) (v9 : Int) (v10 : Int) (r0_0 : List Int) (r0_1 : Int) (r0_2 : Int) (r4000005 : List Zaa.ty) : Option (List T_Role.ty × List Zaa.ty × Zab.ty) :=
 goL Zfo Zhv (vleave Zgx [.box Zab] [.d (.one (.sl T_Role)),.tok Zaa] [.box Zab] []) [.c Zqh,.l Zj8,.e 3,.e 2,.c Zkg]
  ⟨[(0,.loc 0 0 0),(4,.sl T_Role v4),(5,.view 4000005 0 r4000005.length),(9,.int .i64 v9),(10,.int .i64 v10)],[(0,some (.var 3 (.agg [.sl (.one (.int .u8)) r0_0,.int .i64 r0_1,.int .u64 r0_2]))),(4,none),(5,none),(7,none),(1000,none),(4000005,some (.sl Zaa r4000005))]⟩
theorem Zzl (a0 : Zab.ty) : Zko a0 =
 (Zih a0).bind fun x1 =>
  (Zax (x1.2.1,x1.2.2.1,x1.2.2.2.1,()) 9).bind fun x2 =>
   Ze6 x1.1 x2.1 x2.2.1 x2.2.2.1 x2.2.2.2.1 [] :=
 (mk_f _ _ _ _ _ _ _ 4000).trans (by kernel_rfl)
theorem Zmn  (v4 : List T_Role.ty) (v6 : Int) (r0_0 : List Int) (r0_1 : Int) (r0_2 : Int) (r4000005 : List Zaa.ty) : Ze6 v4 v6 r0_0 r0_1 r0_2 r4000005 =
 if decide (v6 > 0) then
  (Zc4 (r0_0,r0_1,r0_2,()) v4).bind fun x1 =>
   (Zi1 v4 (r4000005.take r4000005.length) (x1.1.1,x1.1.2.1,x1.1.2.2.1,())).bind fun x2 =>
    if (x2.2 == 0) then
     Ze6 v4 (IntKind.i64.wrap (v6 - 1)) x1.2.1 x1.2.2.1 x1.2.2.2.1 x2.1
    else
     Ze6 v4 (IntKind.i64.wrap (v6 - 1)) x1.2.1 x1.2.2.1 x1.2.2.2.1 r4000005
 else
  (Zax (r0_0,r0_1,r0_2,()) 20).bind fun x3 =>
   if (x3.1 == 0) then
    (Zc4 (x3.2.1,x3.2.2.1,x3.2.2.2.1,()) v4).bind fun x4 =>
     if decide (r4000005.length + 1 < lim) then
      some (v4,(((r4000005.take r4000005.length) ++ [(x4.1.1,x4.1.2.1,x4.1.2.2.1,())]).take (((r4000005.take r4000005.length) ++ [(x4.1.1,x4.1.2.1,x4.1.2.2.1,())]).length)),(x4.2.1,x4.2.2.1,x4.2.2.2.1,()))
     else
      none
   else
    if (x3.1 == 1) then
     (Zcl (x3.2.1,x3.2.2.1,x3.2.2.2.1,()) [48,49]).bind fun x5 =>
      Zg0 v4 x5.1 0 x5.2.1 x5.2.2.1 x5.2.2.2.1 []
    else
     some (v4,(r4000005.take r4000005.length),(x3.2.1,x3.2.2.1,x3.2.2.2.1,())) :=
 (goL_dn _ _ _ 4000 _ _).trans (by kernel_rfl)
theorem Zmy  (v4 : List T_Role.ty) (v9 : Int) (v10 : Int) (r0_0 : List Int) (r0_1 : Int) (r0_2 : Int) (r4000005 : List Zaa.ty) : Zg0 v4 v9 v10 r0_0 r0_1 r0_2 r4000005 =
 if decide (v10 < v9) then
  if decide ((v4.length : Int) > 0) then
   Zqd v4 v9 v10 r0_0 r0_1 r0_2 r4000005
  else
   some (v4,(r4000005.take r4000005.length),(r0_0,r0_1,r0_2,()))
 else
  some (v4,(r4000005.take r4000005.length),(r0_0,r0_1,r0_2,())) :=
 (goL_dn _ _ _ 4000 _ _).trans (by kernel_rfl)
theorem Zu3  (v4 : List T_Role.ty) (v9 : Int) (v10 : Int) (r0_0 : List Int) (r0_1 : Int) (r0_2 : Int) (r4000005 : List Zaa.ty) : Zqd v4 v9 v10 r0_0 r0_1 r0_2 r4000005 =
 (v4[0]?).bind fun x1 =>
  if decide ([111].length + ([IntKind.u8.wrap (IntKind.i64.wrap (97 + (IntKind.i64.wrap (v10.tdiv 3))))].map vu8).length ≤ strMax) then
   if decide (r4000005.length + 1 < lim) then
    Zg0 v4 v9 (IntKind.i64.wrap (v10 + 1)) r0_0 r0_1 r0_2 ((r4000005.take r4000005.length) ++ [(x1.1,[111] ++ ([IntKind.u8.wrap (IntKind.i64.wrap (97 + (IntKind.i64.wrap (v10.tdiv 3))))].map vu8),IntKind.i64.wrap (1 + (v10.tmod 3)),())])
   else
    none
  else
   none :=
 (goL_dn _ _ _ 4000 _ _).trans (by kernel_rfl)
def Zkr : C :=
 .seq (.reg true [.V 22 (.mv (.t 6)),.V 23 (.mv (.t 7)),.V 24 (.mv (.t 7)),.V 25 (.ia 3 (.t 24) (.c (.int .i64 0))),.V 26 (.ld (some 3) (.t 25)),⟨some 2,true,.asg (.t 22),none,true,[]⟩,⟨some 3,true,.asg (.t 23),none,true,[]⟩,⟨none,true,.sto 3 (.t 4) (.t 26),none,false,[]⟩] [2,3,4] [2,3,4,6,7]) .ret
def Zjt : C :=
 .seq (.reg false [.V 27 (.mv (.t 6)),.V 28 (.mv (.t 7)),.V 29 (.mv (.t 5)),.V 30 (.mv (.t 6)),.W 31 (.call (.c (.fn 729 [])) [.t 29,.t 30]),.W 2 (.asg (.t 27)),.W 3 (.asg (.t 28)),⟨none,true,.sto 3 (.t 4) (.t 31),none,false,[]⟩] [2,3,4] [2,3,4,6,7]) .ret
def Zjz : C :=
 .norm [4,5,6,7] [4,6,7,9,10000] Zjt
def Zf7 : Fn := { np := 1,io := [],res := [.t 2,.t 3,.cell 4 (some 3)],own := [false,true,false],body :=
 (.seq (.reg false [.W 2 (.asg (.c (.nils 2))),.W 3 (.asg (.c (.nils 3))),.W 4 (.alloc 3 (.agg [.str [],.str [],.int .i64 0]))] [0,4] [4]) (.seq (.reg false [.V 8 (.mv (.t 0)),.W 9 (.call (.c (.fn 441 [])) [.t 8]),.V 5 (.asg (.t 9))] [4,5] [4,9,10000]) (.seq (.reg false [.V 11 (.mv (.t 5)),.W 12 (.call (.c (.fn 730 [])) [.t 11]),.V 10 (.mv (.t 12)),.V 13 (.ext (.t 10) 0),.V 14 (.ext (.t 10) 1),.W 6 (.asg (.t 13)),.W 7 (.asg (.t 14))] [4,5,6,7] [4,6,7,9,10000]) (.seq (.seq (.reg false [.V 15 (.mv (.t 7)),.V 16 (.len (.t 15)),.V 17 (.bin .gtr (.t 16) (.c (.int .i64 0))),.V 18 (.mv (.t 17)),.G 19 (.mv (.t 5)) 3 true,⟨some 20,true,.call (.c (.fn 642 [])) [.t 19,.c (.int .i64 8)],some (3,true),false,[]⟩,.V 21 (.pick (.t 18) (.t 20) (.c (.bool false)))] [4,5,6,7,21] [4,6,7,9,10000]) (.cond (.t 21) (.norm [4,6,7] [4,6,7] Zkr) .skip)) Zjz)))) }
noncomputable def Zeu : List (Nat × Callee) := [(441,Zhx),(642,Zh9),(729,Zd2),(730,Zhz)]
def Zgs : List (Nat × ET) := [(2,T_Role),(3,Zaa),(6,T_Role),(7,Zaa),(8,(.one (.int .u8))),(13,T_Role),(14,Zaa),(15,Zaa),(22,T_Role),(23,Zaa),(24,Zaa),(27,T_Role),(28,Zaa),(30,T_Role)]
noncomputable def Zgn : Callee := Zad Zeu Zgs Zf7 [.d (.one (.sl (.one (.int .u8))))] [.d (.one (.sl T_Role)),.tok Zaa,.d Zaa] []
noncomputable def Zh6 (a0 : List Int) : Option (List T_Role.ty × List Zaa.ty × Zaa.ty) := Zgn.f (a0,())
noncomputable def Zkm  (v6 : List T_Role.ty) (r4_0 : List UInt8) (r4_1 : List UInt8) (r4_2 : Int) (r7 : List Zaa.ty) : Option (List T_Role.ty × List Zaa.ty × Zaa.ty) :=
 goL Zeu Zgs (vleave Zf7 [.d (.one (.sl (.one (.int .u8))))] [.d (.one (.sl T_Role)),.tok Zaa,.d Zaa] [] []) [.c Zkr,.c Zjz]
  ⟨[(4,.loc 4 0 0),(6,.sl T_Role v6),(7,.view 7 0 r7.length)],[(4,some (.var 3 (.agg [.str r4_0,.str r4_1,.int .i64 r4_2]))),(6,none),(7,some (.sl Zaa r7))]⟩
noncomputable def Zd5  (v6 : List T_Role.ty) (r4_0 : List UInt8) (r4_1 : List UInt8) (r4_2 : Int) (r7 : List Zaa.ty) (r9_0 : List Int) (r9_1 : Int) (r9_2 : Int) : Option (List T_Role.ty × List Zaa.ty × Zaa.ty) :=
 goL Zeu Zgs (vleave Zf7 [.d (.one (.sl (.one (.int .u8))))] [.d (.one (.sl T_Role)),.tok Zaa,.d Zaa] [] []) [.c Zjt]
  ⟨[(4,.loc 4 0 0),(5,.loc 9 0 0),(6,.sl T_Role v6),(7,.view 7 0 r7.length)],[(4,some (.var 3 (.agg [.str r4_0,.str r4_1,.int .i64 r4_2]))),(6,none),(7,some (.sl Zaa r7)),(9,some (.var 3 (.agg [.sl (.one (.int .u8)) r9_0,.int .i64 r9_1,.int .u64 r9_2]))),(10000,none)]⟩
theorem Zsg (a0 : List Int) : Zh6 a0 =
 (Zkj a0).bind fun x1 =>
  (Zko x1).bind fun x2 =>
   if decide ((x2.2.1.length : Int) > 0) then
    (Zcc (x2.2.2.1,x2.2.2.2.1,x2.2.2.2.2.1,()) 8).bind fun x3 =>
     if x3.1 then
      Zkm x2.1 [] [] 0 x2.2.1
     else
      Zd5 x2.1 [] [] 0 x2.2.1 x3.2.1 x3.2.2.1 x3.2.2.2.1
   else
    Zd5 x2.1 [] [] 0 x2.2.1 x2.2.2.1 x2.2.2.2.1 x2.2.2.2.2.1 :=
 (mk_f _ _ _ _ _ _ _ 4000).trans (by kernel_rfl)
theorem Zp0  (v6 : List T_Role.ty) (r4_0 : List UInt8) (r4_1 : List UInt8) (r4_2 : Int) (r7 : List Zaa.ty) : Zkm v6 r4_0 r4_1 r4_2 r7 =
 if decide (0 < (r7.length : Int)) then
  (r7[0]?).bind fun x1 =>
   some (v6,(r7.take r7.length),x1)
 else
  none :=
 (goL_dn _ _ _ 4000 _ _).trans (by kernel_rfl)
theorem Zp3  (v6 : List T_Role.ty) (r4_0 : List UInt8) (r4_1 : List UInt8) (r4_2 : Int) (r7 : List Zaa.ty) (r9_0 : List Int) (r9_1 : Int) (r9_2 : Int) : Zd5 v6 r4_0 r4_1 r4_2 r7 r9_0 r9_1 r9_2 =
 (Zc4 (r9_0,r9_1,r9_2,()) v6).bind fun x1 =>
  some (v6,(r7.take r7.length),(x1.1.1,x1.1.2.1,x1.1.2.2.1,())) :=
 (goL_dn _ _ _ 4000 _ _).trans (by kernel_rfl)
def Zy5 : Fn := { np := 1,io := [],res := [.t 2],own := [false],body :=
 (.seq (.reg false [.V 2 (.asg (.c (.bool false)))] [0] []) (.seq (.reg false [.V 3 (.mv (.t 0)),.V 4 (.bin .geq (.t 3) (.c (.int .u8 48))),.V 5 (.mv (.t 4)),.G 6 (.mv (.t 0)) 2 true,.G 7 (.bin .leq (.t 6) (.c (.int .u8 57))) 2 true,.V 8 (.pick (.t 5) (.t 7) (.c (.bool false))),.V 2 (.asg (.t 8))] [2] []) .ret)) }
noncomputable def Zrt : List (Nat × Callee) := []
def Zz8 : List (Nat × ET) := []
noncomputable def Zly : Callee := Zad Zrt Zz8 Zy5 [.d (.one (.int .u8))] [.d (.one .bool)] []
noncomputable def Zoq (a0 : Int) : Option (Bool) := Zly.f (a0,())
theorem Zyn (a0 : Int) : Zoq a0 =
 if decide (a0 ≥ 48) then
  some (decide (a0 ≤ 57))
 else
  some false :=
 (mk_f _ _ _ _ _ _ _ 4000).trans (by kernel_rfl)
def Z4h : Fn := { np := 2,io := [],res := [.t 4],own := [false],body :=
 (.seq (.reg false [.V 4 (.asg (.c (.bool false)))] [0,1] []) (.seq (.reg false [.V 5 (.mv (.t 0)),.V 6 (.mv (.t 1)),.V 7 (.bin .leq (.t 5) (.t 6)),.V 4 (.asg (.t 7))] [4] []) .ret)) }
noncomputable def Zzj : List (Nat × Callee) := []
def Z6d : List (Nat × ET) := []
noncomputable def Zkt : Callee := Zad Zzj Z6d Z4h [.d (.one (.int .i64)),.d (.one (.int .i64))] [.d (.one .bool)] []
noncomputable def Zsj (a0 : Int) (a1 : Int) : Option (Bool) := Zkt.f (a0,a1,())
theorem Zrf (a0 : Int) (a1 : Int) : Zsj a0 a1 =
 some (decide (a0 ≤ a1)) :=
 (mk_f _ _ _ _ _ _ _ 4000).trans (by kernel_rfl)
def Zrz : C :=
 .seq (.reg false [.V 21 (.mv (.t 4)),.V 22 (.un .not (.t 21)),.V 23 (.mv (.t 22)),.G 24 (.mv (.t 3)) 2 true,.G 25 (.bin .eql (.t 24) (.c (.int .i64 0))) 2 true,.G 26 (.mv (.t 25)) 2 true,.G 27 (.mv (.t 0)) 5 false,.G 28 (.mv (.t 3)) 5 false,.G 29 (.ix (.t 27) (.t 28)) 5 false,.G 30 (.call (.c (.fn 22 [])) [.t 29]) 5 false,.G 31 (.un .not (.t 30)) 5 false,.G 32 (.pick (.t 26) (.c (.bool true)) (.t 31)) 2 true,.V 33 (.pick (.t 23) (.t 32) (.c (.bool false)))] [0,3,33] []) (.cond (.t 33) (.seq (.reg false [.V 2 (.asg (.c (.bool false)))] [2] []) .ret) .skip)
def Zr0 : C :=
 .reg false [.V 9 (.mv (.t 3)),.V 10 (.bin .add (.t 9) (.c (.int .i64 1))),.V 3 (.asg (.t 10))] [0,3] []
def Zr4 : C :=
 .seq (.seq (.reg false [.V 5 (.mv (.t 3)),.V 6 (.mv (.t 0)),.V 7 (.lens (.t 6)),.V 8 (.bin .lss (.t 5) (.t 7))] [0,3,8] []) (.cond (.t 8) .skip (.exit 0))) (.seq (.block 1 (.seq (.reg false [.V 11 (.mv (.t 0)),.V 12 (.mv (.t 3)),.V 13 (.ix (.t 11) (.t 12)),.V 14 (.bin .geq (.t 13) (.c (.int .u8 97))),.V 15 (.mv (.t 14)),.G 16 (.mv (.t 0)) 4 true,.G 17 (.mv (.t 3)) 4 true,.G 18 (.ix (.t 16) (.t 17)) 4 true,.G 19 (.bin .leq (.t 18) (.c (.int .u8 122))) 4 true,.V 20 (.pick (.t 15) (.t 19) (.c (.bool false))),.V 4 (.asg (.t 20))] [0,3,4] []) (.norm [0,3,4] [] Zrz))) Zr0)
def Zl0 : C :=
 .norm [0,3] [] Zr4
def Zl5 : C :=
 .seq (.reg false [.V 34 (.mv (.t 0)),.V 35 (.bin .neq (.t 34) (.c (.str []))),.V 36 (.mv (.t 35)),.G 37 (.mv (.t 0)) 2 true,.G 38 (.lens (.t 37)) 2 true,.G 39 (.call (.c (.fn 21 [])) [.t 38,.c (.int .i64 10)]) 2 true,.V 40 (.pick (.t 36) (.t 39) (.c (.bool false))),.V 2 (.asg (.t 40))] [2] []) .ret
def Zls : Fn := { np := 1,io := [],res := [.t 2],own := [false],body :=
 (.seq (.reg false [.V 2 (.asg (.c (.bool false)))] [0] []) (.seq (.seq (.reg false [.V 3 (.asg (.c (.int .i64 0)))] [0,3] []) (.block 0 (.loop Zl0))) Zl5)) }
noncomputable def Zix : List (Nat × Callee) := [(21,Zkt),(22,Zly)]
def Zng : List (Nat × ET) := []
noncomputable def Ziv : Callee := Zad Zix Zng Zls [.d (.one .str)] [.d (.one .bool)] []
noncomputable def Zip (a0 : List UInt8) : Option (Bool) := Ziv.f (a0,())
noncomputable def Zfn  (v0 : List UInt8) (v3 : Int) : Option (Bool) :=
 goL Zix Zng (vleave Zls [.d (.one .str)] [.d (.one .bool)] [] []) [.c Zr4,.l Zl0,.e 0,.c Zl5]
  ⟨[(0,.str v0),(3,.int .i64 v3)],[]⟩
noncomputable def Zhr  (v0 : List UInt8) (v3 : Int) (v4 : Bool) : Option (Bool) :=
 goL Zix Zng (vleave Zls [.d (.one .str)] [.d (.one .bool)] [] []) [.c Zrz,.e 1,.c Zr0,.l Zl0,.e 0,.c Zl5]
  ⟨[(0,.str v0),(3,.int .i64 v3),(4,.bool v4)],[]⟩
theorem Z0q (a0 : List UInt8) : Zip a0 =
 Zfn a0 0 :=
 (mk_f _ _ _ _ _ _ _ 4000).trans (by kernel_rfl)
theorem Znr  (v0 : List UInt8) (v3 : Int) : Zfn v0 v3 =
 if decide (v3 < (v0.length : Int)) then
  if decide (0 ≤ v3) then
   (v0[v3.toNat]?).bind fun x1 =>
    if decide ((x1.toNat : Int) ≥ 97) then
     if decide (0 ≤ v3) then
      (v0[v3.toNat]?).bind fun x2 =>
       Zhr v0 v3 (decide ((x2.toNat : Int) ≤ 122))
     else
      none
    else
     Zhr v0 v3 false
  else
   none
 else
  if (!(v0 == [])) then
   (Zsj (v0.length : Int) 10).bind fun x3 =>
    some x3
  else
   some false :=
 (goL_dn _ _ _ 4000 _ _).trans (by kernel_rfl)
theorem Zwb  (v0 : List UInt8) (v3 : Int) (v4 : Bool) : Zhr v0 v3 v4 =
 if (!v4) then
  if (v3 == 0) then
   some false
  else
   if decide (0 ≤ v3) then
    (v0[v3.toNat]?).bind fun x1 =>
     (Zoq (x1.toNat : Int)).bind fun x2 =>
      if (!x2) then
       some false
      else
       Zfn v0 (IntKind.i64.wrap (v3 + 1))
   else
    none
 else
  Zfn v0 (IntKind.i64.wrap (v3 + 1)) :=
 (goL_dn _ _ _ 4000 _ _).trans (by kernel_rfl)
def Zya : Fn := { np := 2,io := [],res := [.t 3],own := [false],body :=
 (.seq (.reg false [.W 2 (.box 2 (.t 0)),.V 3 (.asg (.c (.bool false)))] [1,2] [2,3001]) (.seq (.reg false [.V 4 (.fa 0 (.t 2)),.V 5 (.ld none (.t 4)),.V 6 (.ld none (.t 1)),.V 7 (.bin .eql (.t 5) (.t 6)),.V 3 (.asg (.t 7))] [3] []) .ret)) }
noncomputable def Zqk : List (Nat × Callee) := []
def Zyd : List (Nat × ET) := []
noncomputable def Zkb : Callee := Zad Zqk Zyd Zya [.d T_Role,.p (.one .str)] [.d (.one .bool)] []
noncomputable def Ztg (a0 : T_Role.ty) (a1 : List UInt8) : Option (Bool) := Zkb.f (a0,a1,())
theorem Zx1 (a0 : T_Role.ty) (a1 : List UInt8) : Ztg a0 a1 =
 some (a0.1 == a1) :=
 (mk_f _ _ _ _ _ _ _ 4000).trans (by kernel_rfl)
def Zbo : C :=
 .seq (.reg false [.V 9 (.bin .lss (.t 8) (.t 7))] [0,1,7,8,9] []) (.seq (.cond (.t 9) .skip (.exit 0)) (.seq (.block 1 (.seq (.reg false [.V 10 (.mv (.t 8)),.V 5 (.asg (.t 10))] [0,1,5,7,8] []) (.seq (.reg false [.V 11 (.mv (.t 1)),.V 12 (.mv (.t 0)),.V 13 (.mv (.t 5)),.V 14 (.ia 2 (.t 12) (.t 13)),.V 15 (.ld (some 2) (.t 14)),.V 16 (.call (.t 11) [.t 15])] [0,1,5,7,8,16] []) (.cond (.t 16) (.seq (.reg false [.V 17 (.mv (.t 5)),.V 4 (.asg (.t 17))] [4] []) .ret) .skip)))) (.reg false [.V 18 (.bin .add (.t 8) (.c (.int .i64 1))),.V 8 (.mv (.t 18))] [0,1,7,8] [])))
def Zbp : C :=
 .norm [0,1,7,8] [] Zbo
def Zbq : C :=
 .seq (.reg false [.V 4 (.asg (.c (.int .i64 (-1))))] [4] []) .ret
def Zbv : Fn := { np := 2,io := [],res := [.t 4],own := [false],body :=
 (.seq (.reg false [.V 4 (.asg (.c (.int .i64 0)))] [0,1] []) (.seq (.seq (.reg false [.V 6 (.mv (.t 0)),.V 7 (.len (.t 6)),.V 8 (.mv (.c (.int .i64 0)))] [0,1,7,8] []) (.block 0 (.loop Zbp))) Zbq)) }
noncomputable def Zaz : List (Nat × Callee) := [(983,Zkb)]
def Zbx : List (Nat × ET) := [(6,T_Role),(12,T_Role)]
noncomputable def Za0 : Callee := Zad Zaz Zbx Zbv [.d (.one (.sl T_Role)),.fn 983 [(.one .str)]] [.d (.one (.int .i64))] []
noncomputable def Zb6 (a0 : List T_Role.ty) (a1 : (List UInt8) × Unit) : Option (Int) := Za0.f (a0,a1,())
noncomputable def Zam  (v0 : List T_Role.ty) (v1_0_0 : List UInt8) (v7 : Int) (v8 : Int) : Option (Int) :=
 goL Zaz Zbx (vleave Zbv [.d (.one (.sl T_Role)),.fn 983 [(.one .str)]] [.d (.one (.int .i64))] [] []) [.c Zbo,.l Zbp,.e 0,.c Zbq]
  ⟨[(0,.sl T_Role v0),(1,.fn 983 [.ptr [.str v1_0_0] 0]),(7,.int .i64 v7),(8,.int .i64 v8)],[]⟩
theorem Zdo (a0 : List T_Role.ty) (a1 : (List UInt8) × Unit) : Zb6 a0 a1 =
 Zam a0 a1.1 (a0.length : Int) 0 :=
 (mk_f _ _ _ _ _ _ _ 4000).trans (by kernel_rfl)
theorem Zbg  (v0 : List T_Role.ty) (v1_0_0 : List UInt8) (v7 : Int) (v8 : Int) : Zam v0 v1_0_0 v7 v8 =
 if decide (v8 < v7) then
  if decide (0 ≤ v8) then
   (v0[v8.toNat]?).bind fun x1 =>
    (Ztg x1 v1_0_0).bind fun x2 =>
     if x2 then
      some v8
     else
      Zam v0 v1_0_0 v7 (IntKind.i64.wrap (v8 + 1))
  else
   none
 else
  some (-1) :=
 (goL_dn _ _ _ 4000 _ _).trans (by kernel_rfl)
def Zz7 : Fn := { np := 2,io := [],res := [.t 4],own := [false],body :=
 (.seq (.reg false [.W 3 (.box 1 (.t 1)),.V 4 (.asg (.c (.int .i64 0)))] [0,3] [3]) (.seq (.reg false [.V 5 (.mv (.t 0)),.V 6 (.mkf 983 [.t 3]),.V 7 (.call (.c (.fn 1282 [])) [.t 5,.t 6]),.V 4 (.asg (.t 7))] [4] []) .ret)) }
noncomputable def Ztk : List (Nat × Callee) := [(1282,Za0)]
def Z1y : List (Nat × ET) := [(5,T_Role)]
noncomputable def Zgl : Callee := Zad Ztk Z1y Zz7 [.d (.one (.sl T_Role)),.d (.one .str)] [.d (.one (.int .i64))] []
noncomputable def Zfi (a0 : List T_Role.ty) (a1 : List UInt8) : Option (Int) := Zgl.f (a0,a1,())
theorem Z0a (a0 : List T_Role.ty) (a1 : List UInt8) : Zfi a0 a1 =
 (Zb6 a0 (a1,())).bind fun x1 =>
  some x1 :=
 (mk_f _ _ _ _ _ _ _ 4000).trans (by kernel_rfl)
def Zd9 : C :=
 .seq (.reg false [.V 9 (.bin .lss (.t 8) (.t 7))] [0,1,7,8,9] []) (.seq (.cond (.t 9) .skip (.exit 0)) (.seq (.block 1 (.seq (.reg false [.V 10 (.mv (.t 8)),.V 5 (.asg (.t 10))] [0,1,5,7,8] []) (.seq (.reg false [.V 11 (.mv (.t 1)),.V 12 (.mv (.t 0)),.V 13 (.mv (.t 5)),.V 14 (.ia 1 (.t 12) (.t 13)),.V 15 (.ld none (.t 14)),.V 16 (.bin .eql (.t 11) (.t 15))] [0,1,5,7,8,16] []) (.cond (.t 16) (.seq (.reg false [.V 17 (.mv (.t 5)),.V 4 (.asg (.t 17))] [4] []) .ret) .skip)))) (.reg false [.V 18 (.bin .add (.t 8) (.c (.int .i64 1))),.V 8 (.mv (.t 18))] [0,1,7,8] [])))
def Zei : C :=
 .norm [0,1,7,8] [] Zd9
def Zea : C :=
 .seq (.reg false [.V 4 (.asg (.c (.int .i64 (-1))))] [4] []) .ret
def Zej : Fn := { np := 2,io := [],res := [.t 4],own := [false],body :=
 (.seq (.reg false [.V 4 (.asg (.c (.int .i64 0)))] [0,1] []) (.seq (.seq (.reg false [.V 6 (.mv (.t 0)),.V 7 (.len (.t 6)),.V 8 (.mv (.c (.int .i64 0)))] [0,1,7,8] []) (.block 0 (.loop Zei))) Zea)) }
noncomputable def Zc1 : List (Nat × Callee) := []
def Zew : List (Nat × ET) := [(6,(.one .str)),(12,(.one .str))]
noncomputable def Zc2 : Callee := Zad Zc1 Zew Zej [.d (.one (.sl (.one .str))),.d (.one .str)] [.d (.one (.int .i64))] []
noncomputable def Zdm (a0 : List (List UInt8)) (a1 : List UInt8) : Option (Int) := Zc2.f (a0,a1,())
noncomputable def Zb5  (v0 : List (List UInt8)) (v1 : List UInt8) (v7 : Int) (v8 : Int) : Option (Int) :=
 goL Zc1 Zew (vleave Zej [.d (.one (.sl (.one .str))),.d (.one .str)] [.d (.one (.int .i64))] [] []) [.c Zd9,.l Zei,.e 0,.c Zea]
  ⟨[(0,.sl (.one .str) v0),(1,.str v1),(7,.int .i64 v7),(8,.int .i64 v8)],[]⟩
theorem Zjf (a0 : List (List UInt8)) (a1 : List UInt8) : Zdm a0 a1 =
 Zb5 a0 a1 (a0.length : Int) 0 :=
 (mk_f _ _ _ _ _ _ _ 4000).trans (by kernel_rfl)
theorem Zdx  (v0 : List (List UInt8)) (v1 : List UInt8) (v7 : Int) (v8 : Int) : Zb5 v0 v1 v7 v8 =
 if decide (v8 < v7) then
  if decide (0 ≤ v8) then
   (v0[v8.toNat]?).bind fun x1 =>
    if (v1 == x1) then
     some v8
    else
     Zb5 v0 v1 v7 (IntKind.i64.wrap (v8 + 1))
  else
   none
 else
  some (-1) :=
 (goL_dn _ _ _ 4000 _ _).trans (by kernel_rfl)
def Zhp : Fn := { np := 2,io := [],res := [.t 4],own := [false],body :=
 (.seq (.reg false [.V 4 (.asg (.c (.bool false)))] [0,1] []) (.seq (.reg false [.V 5 (.mv (.t 0)),.V 6 (.mv (.t 1)),.V 7 (.call (.c (.fn 634 [])) [.t 5,.t 6]),.V 8 (.bin .geq (.t 7) (.c (.int .i64 0))),.V 4 (.asg (.t 8))] [4] []) .ret)) }
noncomputable def Zd1 : List (Nat × Callee) := [(634,Zc2)]
def Zik : List (Nat × ET) := [(5,(.one .str))]
noncomputable def Zbm : Callee := Zad Zd1 Zik Zhp [.d (.one (.sl (.one .str))),.d (.one .str)] [.d (.one .bool)] []
noncomputable def Zac (a0 : List (List UInt8)) (a1 : List UInt8) : Option (Bool) := Zbm.f (a0,a1,())
theorem Zhq (a0 : List (List UInt8)) (a1 : List UInt8) : Zac a0 a1 =
 (Zdm a0 a1).bind fun x1 =>
  some (decide (x1 ≥ 0)) :=
 (mk_f _ _ _ _ _ _ _ 4000).trans (by kernel_rfl)
noncomputable def Zc6 : Callee := sortSC
noncomputable def Zdp (a0 : List (List UInt8)) : Option (List (List UInt8)) := Zc6.f (a0,())
theorem Zjs (a0 : List (List UInt8)) : Zdp a0 = if decide (a0.length < 4611686018427387904) then some (a0.mergeSort fun a b => decide (a ≤ b)) else none := rfl
noncomputable def Zcr : Callee := Z1g
noncomputable def Zc0 (a0 : List (List UInt8)) : Option (List (List UInt8) × Unit) := Zcr.f (a0,())
theorem Zie (a0 : List (List UInt8)) : Zc0 a0 = if decide (a0.length ≤ 9223372036854775807) then some (Lib.compact a0,()) else none := rfl
def Zv9 : Fn := { np := 1,io := [true],res := [.t 2],own := [true],body :=
 (.seq (.reg false [.W 2 (.asg (.c (.nils 1)))] [0] [0]) (.seq (.reg false [.V 3 (.mv (.t 0)),.W 4 (.call (.c (.fn 823 [])) [.t 3])] [0] [0]) (.seq (.reg false [.V 5 (.mv (.t 0)),.W 6 (.call (.c (.fn 861 [])) [.t 5]),.W 2 (.asg (.t 6))] [0,2] [0,2]) .ret))),gone := [0] }
noncomputable def Zo9 : List (Nat × Callee) := [(823,Zc6),(861,Zcr)]
def Zx4 : List (Nat × ET) := [(2,(.one .str)),(3,(.one .str)),(5,(.one .str)),(6,(.one .str))]
noncomputable def Zi5 : Callee := Zad Zo9 Zx4 Zv9 [.ios (.one .str)] [.tok (.one .str)] [.gone]
noncomputable def Zl1 (a0 : List (List UInt8)) : Option (List (List UInt8) × Unit) := Zi5.f (a0,())
theorem Zwa (a0 : List (List UInt8)) : Zl1 a0 =
 if decide (a0.length = a0.length) then
  (Zdp a0).bind fun x1 =>
   if decide (a0.length = x1.length) then
    (Zc0 x1).bind fun x2 =>
     some ((x2.1.take x2.1.length),())
   else
    none
 else
  none :=
 (mk_f _ _ _ _ _ _ _ 4000).trans (by kernel_rfl)
def Zto : C :=
 .seq (.reg false [.V 30 (.bin .lss (.t 29) (.t 28))] [0,5,6,27,28,29,30] [5,6,4000006]) (.seq (.cond (.t 30) .skip (.exit 2)) (.seq (.block 3 (.seq (.reg false [.V 31 (.ia 1 (.t 27) (.t 29)),.V 32 (.ld none (.t 31)),.V 9 (.asg (.t 32))] [0,5,6,9,27,28,29] [5,6,4000006]) (.seq (.reg false [.V 33 (.mv (.t 5)),.V 34 (.mv (.t 9)),.V 35 (.call (.c (.fn 985 [])) [.t 33,.t 34]),.V 36 (.un .not (.t 35))] [0,5,6,9,27,28,29,36] [5,6,4000006]) (.cond (.t 36) (.seq (.reg false [.V 37 (.mv (.t 5)),.V 38 (.mv (.t 9)),.V 39 (.bsl 1 (.str []) 1 [(0,.t 38)]),.W 40 (.app 1 16 (.t 37) (.t 39)),.W 5 (.asg (.t 40))] [0,5,6,9,27,28,29] [5,6,4000006]) (.reg false [.V 41 (.mv (.t 6)),.V 42 (.mv (.t 9)),.V 43 (.bsl 1 (.str []) 1 [(0,.t 42)]),.W 44 (.app 1 16 (.t 41) (.t 43)),.W 6 (.asg (.t 44))] [0,5,6,27,28,29] [5,6,4000006])) .skip)))) (.reg false [.V 45 (.bin .add (.t 29) (.c (.int .i64 1))),.V 29 (.mv (.t 45))] [0,5,6,27,28,29] [5,6,4000006])))
def Zts : C :=
 .opn 8000006 (.norm [0,5,6,27,28,29] [5,4000006] Zto)
def Ztd : C :=
 .seq (.seq (.reg false [.V 13 (.mv (.t 6)),.V 14 (.len (.t 13)),.V 15 (.bin .gtr (.t 14) (.c (.int .i64 0)))] [0,5,6,15] [5,6,4000006]) (.cond (.t 15) .skip (.exit 0))) (.block 1 (.seq (.reg false [.V 16 (.mv (.t 0)),.V 17 (.mv (.t 6)),.V 18 (.ia 1 (.t 17) (.c (.int .i64 0))),.V 19 (.ld none (.t 18)),.V 20 (.call (.c (.fn 815 [])) [.t 16,.t 19]),.V 7 (.asg (.t 20))] [0,5,6,7] [5,6,4000006]) (.seq (.reg false [.V 21 (.mv (.t 6)),.V 22 (.slc 1 (.t 21) (some (.c (.int .i64 1))) none),.W 6 (.asg (.t 22))] [0,5,6,7] [5,6,4000006]) (.seq (.reg false [.V 23 (.mv (.t 0)),.V 24 (.mv (.t 7)),.V 25 (.ia 2 (.t 23) (.t 24)),.V 26 (.fa 1 (.t 25)),.V 27 (.ld none (.t 26)),.V 28 (.len (.t 27)),.V 29 (.mv (.c (.int .i64 0)))] [0,5,6,27,28,29] [5,6,4000006]) (.block 2 (.loop Zts))))))
def Znh : C :=
 .opn 8000006 (.norm [0,5,6] [5,4000006] Ztd)
def Znf : C :=
 .seq (.reg false [.V 46 (.mv (.t 5)),.W 47 (.call (.c (.fn 520 [])) [.t 46]),.W 4 (.asg (.t 47))] [4] [4]) .ret
def Znb : Fn := { np := 2,io := [],res := [.t 4],own := [true],body :=
 (.seq (.reg false [.W 4 (.asg (.c (.nils 1)))] [0,1] []) (.seq (.reg false [.V 10 (.bsl 1 (.str []) 0 []),.W 5 (.asg (.t 10))] [0,1,5] [5]) (.seq (.reg false [.V 11 (.mv (.t 1)),.V 12 (.bsl 1 (.str []) 1 [(0,.t 11)]),.W 6 (.asg (.t 12))] [0,5,6] [5,6,4000006]) (.seq (.block 0 (.loop Znh)) Znf)))) }
noncomputable def Zks : List (Nat × Callee) := [(520,Zi5),(815,Zgl),(985,Zbm)]
def Zpw : List (Nat × ET) := [(4,(.one .str)),(5,(.one .str)),(6,(.one .str)),(10,(.one .str)),(12,(.one .str)),(13,(.one .str)),(16,T_Role),(17,(.one .str)),(21,(.one .str)),(22,(.one .str)),(23,T_Role),(27,(.one .str)),(33,(.one .str)),(37,(.one .str)),(39,(.one .str)),(40,(.one .str)),(41,(.one .str)),(43,(.one .str)),(44,(.one .str)),(46,(.one .str)),(47,(.one .str))]
noncomputable def Zpe : Callee := Zad Zks Zpw Znb [.d (.one (.sl T_Role)),.d (.one .str)] [.tok (.one .str)] []
noncomputable def Zbl (a0 : List T_Role.ty) (a1 : List UInt8) : Option (List (List UInt8)) := Zpe.f (a0,a1,())
noncomputable def Zez  (v0 : List T_Role.ty) (v6n : Nat) (r5 : List (List UInt8)) (r4000006 : List (List UInt8)) : Option (List (List UInt8)) :=
 goL Zks Zpw (vleave Znb [.d (.one (.sl T_Role)),.d (.one .str)] [.tok (.one .str)] [] []) [.c Ztd,.l Znh,.e 0,.c Znf]
  ⟨[(0,.sl T_Role v0),(5,.view 5 0 r5.length),(6,.view 4000006 0 v6n)],[(5,some (.sl (.one .str) r5)),(4000006,some (.sl (.one .str) r4000006))]⟩
noncomputable def Zex  (v0 : List T_Role.ty) (v6n : Nat) (v27 : List (List UInt8)) (v28 : Int) (v29 : Int) (r5 : List (List UInt8)) (r4000006 : List (List UInt8)) : Option (List (List UInt8)) :=
 goL Zks Zpw (vleave Znb [.d (.one (.sl T_Role)),.d (.one .str)] [.tok (.one .str)] [] []) [.c Zto,.l Zts,.e 2,.e 1,.l Znh,.e 0,.c Znf]
  ⟨[(0,.sl T_Role v0),(5,.view 5 0 r5.length),(6,.view 4000006 0 v6n),(27,.sl (.one .str) v27),(28,.int .i64 v28),(29,.int .i64 v29)],[(5,some (.sl (.one .str) r5)),(4000006,some (.sl (.one .str) r4000006))]⟩
theorem Z16 (a0 : List T_Role.ty) (a1 : List UInt8) : Zbl a0 a1 =
 Zez a0 1 [] [a1] :=
 (mk_f _ _ _ _ _ _ _ 4000).trans (by kernel_rfl)
theorem Zo4  (v0 : List T_Role.ty) (v6n : Nat) (r5 : List (List UInt8)) (r4000006 : List (List UInt8)) : Zez v0 v6n r5 r4000006 =
 if decide ((v6n : Int) > 0) then
  if decide (0 < (v6n : Int)) then
   (r4000006[0]?).bind fun x1 =>
    (Zfi v0 x1).bind fun x2 =>
     if decide (1 ≤ (v6n : Int)) then
      if decide (0 ≤ x2) then
       (v0[x2.toNat]?).bind fun x3 =>
        Zex v0 (v6n - 1) x3.2.1 (x3.2.1.length : Int) 0 r5 ((r4000006.drop 1).take (v6n - 1))
      else
       none
     else
      none
  else
   none
 else
  if decide (r5.length = r5.length) then
   (Zl1 r5).bind fun x4 =>
    some (x4.1.take x4.1.length)
  else
   none :=
 (goL_dn _ _ _ 4000 _ _).trans (by kernel_rfl)
theorem Zoj  (v0 : List T_Role.ty) (v6n : Nat) (v27 : List (List UInt8)) (v28 : Int) (v29 : Int) (r5 : List (List UInt8)) (r4000006 : List (List UInt8)) : Zex v0 v6n v27 v28 v29 r5 r4000006 =
 if decide (v29 < v28) then
  if decide (0 ≤ v29) then
   (v27[v29.toNat]?).bind fun x1 =>
    (Zac (r5.take r5.length) x1).bind fun x2 =>
     if (!x2) then
      if decide (r5.length + 1 < lim) then
       if decide (v6n + 1 < lim) then
        Zex v0 (((r4000006.take v6n) ++ [x1]).length) v27 v28 (IntKind.i64.wrap (v29 + 1)) ((r5.take r5.length) ++ [x1]) (((r4000006.take v6n) ++ [x1]).take (((r4000006.take v6n) ++ [x1]).length))
       else
        none
      else
       none
     else
      Zex v0 v6n v27 v28 (IntKind.i64.wrap (v29 + 1)) r5 (r4000006.take v6n)
  else
   none
 else
  Zez v0 v6n r5 (r4000006.take v6n) :=
 (goL_dn _ _ _ 4000 _ _).trans (by kernel_rfl)
def Zms : C :=
 .seq (.reg false [.V 39 (.bin .lss (.t 38) (.t 37))] [0,4,9,10,11,36,37,38,39] [4,5001]) (.seq (.cond (.t 39) .skip (.exit 2)) (.seq (.block 3 (.seq (.reg false [.V 40 (.mv (.t 38)),.V 41 (.ia 1 (.t 36) (.t 38)),.V 42 (.ld none (.t 41)),.V 5 (.asg (.t 40)),.V 6 (.asg (.t 42))] [0,4,5,6,9,10,11,36,37,38] [4,5001]) (.seq (.reg false [.V 43 (.mv (.t 5)),.V 44 (.bin .gtr (.t 43) (.c (.int .i64 0))),.V 45 (.mv (.t 44)),.G 46 (.fa 1 (.t 4)) 2 true,.G 47 (.ld none (.t 46)) 2 true,.G 48 (.mv (.t 5)) 2 true,.G 49 (.bin .sub (.t 48) (.c (.int .i64 1))) 2 true,.G 50 (.ia 1 (.t 47) (.t 49)) 2 true,.G 51 (.ld none (.t 50)) 2 true,.G 52 (.mv (.t 6)) 2 true,.G 53 (.bin .geq (.t 51) (.t 52)) 2 true,.V 54 (.pick (.t 45) (.t 53) (.c (.bool false))),.V 55 (.mv (.t 54)),.G 56 (.mv (.t 0)) 12 false,.G 57 (.mv (.t 6)) 12 false,.G 58 (.call (.c (.fn 815 [])) [.t 56,.t 57]) 12 false,.G 59 (.bin .lss (.t 58) (.c (.int .i64 0))) 12 false,.V 60 (.pick (.t 55) (.c (.bool true)) (.t 59))] [0,4,9,10,11,36,37,38,60] [4,5001]) (.cond (.t 60) (.seq (.reg false [.V 2 (.asg (.c (.bool false)))] [2] []) .ret) .skip)))) (.reg false [.V 61 (.bin .add (.t 38) (.c (.int .i64 1))),.V 38 (.mv (.t 61))] [0,4,9,10,11,36,37,38] [4,5001])))
def Zm3 : C :=
 .norm [0,4,9,10,11,36,37,38] [4,5001] Zms
def Zm7 : C :=
 .seq (.reg false [.V 35 (.fa 1 (.t 4)),.V 36 (.ld none (.t 35)),.V 37 (.len (.t 36)),.V 38 (.mv (.c (.int .i64 0)))] [0,4,9,10,11,36,37,38] [4,5001]) (.block 2 (.loop Zm3))
def Zhm : C :=
 .reg false [.V 62 (.bin .add (.t 11) (.c (.int .i64 1))),.V 11 (.mv (.t 62))] [0,9,10,11] []
def Zmw : C :=
 .seq (.reg false [.V 12 (.bin .lss (.t 11) (.t 10))] [0,9,10,11,12] []) (.seq (.cond (.t 12) .skip (.exit 0)) (.seq (.block 1 (.seq (.reg false [.V 13 (.mv (.t 11)),.V 14 (.ia 2 (.t 9) (.t 11)),.V 15 (.ld (some 2) (.t 14)),.W 4 (.alloc 2 (.agg [.str [],.nils 1])),.V 3 (.asg (.t 13)),⟨none,true,.sto 2 (.t 4) (.t 15),none,false,[]⟩] [0,3,4,9,10,11] [4,5001]) (.seq (.seq (.reg true [.V 16 (.fa 0 (.t 4)),.V 17 (.ld none (.t 16)),.V 18 (.call (.c (.fn 24 [])) [.t 17]),.V 19 (.un .not (.t 18)),.V 20 (.mv (.t 19)),.G 21 (.mv (.t 3)) 4 false,.G 22 (.bin .gtr (.t 21) (.c (.int .i64 0))) 4 false,.G 23 (.mv (.t 22)) 4 false,.G 24 (.mv (.t 0)) 7 true,.G 25 (.mv (.t 3)) 7 true,.G 26 (.bin .sub (.t 25) (.c (.int .i64 1))) 7 true,.G 27 (.ia 2 (.t 24) (.t 26)) 7 true,.G 28 (.fa 0 (.t 27)) 7 true,.G 29 (.ld none (.t 28)) 7 true,.G 30 (.fa 0 (.t 4)) 7 true,.G 31 (.ld none (.t 30)) 7 true,.G 32 (.bin .geq (.t 29) (.t 31)) 7 true,.G 33 (.pick (.t 23) (.t 32) (.c (.bool false))) 4 false,.V 34 (.pick (.t 20) (.c (.bool true)) (.t 33))] [0,4,9,10,11,34] [4,5001]) (.cond (.t 34) (.seq (.reg false [.V 2 (.asg (.c (.bool false)))] [2] []) .ret) .skip)) (.norm [0,4,9,10,11] [4,5001] Zm7)))) Zhm))
def Ze9 : C :=
 .norm [0,9,10,11] [] Zmw
def Zmj : C :=
 .seq (.reg false [.V 66 (.bin .lss (.t 65) (.t 64))] [0,63,64,65,66] []) (.seq (.cond (.t 66) .skip (.exit 4)) (.seq (.block 5 (.seq (.reg false [.V 67 (.ia 2 (.t 63) (.t 65)),.V 68 (.ld (some 2) (.t 67)),.W 8 (.alloc 2 (.agg [.str [],.nils 1])),⟨none,true,.sto 2 (.t 8) (.t 68),none,false,[]⟩] [0,8,63,64,65] [8,9001]) (.seq (.reg true [.V 69 (.mv (.t 0)),.V 70 (.fa 0 (.t 8)),.V 71 (.ld none (.t 70)),.V 72 (.call (.c (.fn 816 [])) [.t 69,.t 71]),.V 73 (.fa 0 (.t 8)),.V 74 (.ld none (.t 73)),.V 75 (.call (.c (.fn 985 [])) [.t 72,.t 74])] [0,63,64,65,75] []) (.cond (.t 75) (.seq (.reg false [.V 2 (.asg (.c (.bool false)))] [2] []) .ret) .skip)))) (.reg false [.V 76 (.bin .add (.t 65) (.c (.int .i64 1))),.V 65 (.mv (.t 76))] [0,63,64,65] [])))
def Zmt : C :=
 .norm [0,63,64,65] [] Zmj
def Zm1 : C :=
 .seq (.reg false [.V 77 (.mv (.t 0)),.V 78 (.len (.t 77)),.V 79 (.call (.c (.fn 21 [])) [.t 78,.c (.int .i64 12)]),.V 2 (.asg (.t 79))] [2] []) .ret
def Ze1 : C :=
 .seq (.seq (.reg false [.V 63 (.mv (.t 0)),.V 64 (.len (.t 63)),.V 65 (.mv (.c (.int .i64 0)))] [0,63,64,65] []) (.block 4 (.loop Zmt))) Zm1
def Zdv : Fn := { np := 1,io := [],res := [.t 2],own := [false],body :=
 (.seq (.reg false [.V 2 (.asg (.c (.bool false)))] [0] []) (.seq (.seq (.reg false [.V 9 (.mv (.t 0)),.V 10 (.len (.t 9)),.V 11 (.mv (.c (.int .i64 0)))] [0,9,10,11] []) (.block 0 (.loop Ze9))) Ze1)) }
noncomputable def Zde : List (Nat × Callee) := [(21,Zkt),(24,Ziv),(815,Zgl),(816,Zpe),(985,Zbm)]
def Zd3 : List (Nat × ET) := [(9,T_Role),(24,T_Role),(36,(.one .str)),(47,(.one .str)),(56,T_Role),(63,T_Role),(69,T_Role),(72,(.one .str)),(77,T_Role)]
noncomputable def Zia : Callee := Zad Zde Zd3 Zdv [.d (.one (.sl T_Role))] [.d (.one .bool)] []
noncomputable def Zkf (a0 : List T_Role.ty) : Option (Bool) := Zia.f (a0,())
noncomputable def Zbf  (v0 : List T_Role.ty) (v9 : List T_Role.ty) (v10 : Int) (v11 : Int) : Option (Bool) :=
 goL Zde Zd3 (vleave Zdv [.d (.one (.sl T_Role))] [.d (.one .bool)] [] []) [.c Zmw,.l Ze9,.e 0,.c Ze1]
  ⟨[(0,.sl T_Role v0),(9,.sl T_Role v9),(10,.int .i64 v10),(11,.int .i64 v11)],[]⟩
noncomputable def Zg6  (v0 : List T_Role.ty) (v9 : List T_Role.ty) (v10 : Int) (v11 : Int) (r4_0 : List UInt8) (r4_1 : List (List UInt8)) : Option (Bool) :=
 goL Zde Zd3 (vleave Zdv [.d (.one (.sl T_Role))] [.d (.one .bool)] [] []) [.c Zm7,.e 1,.c Zhm,.l Ze9,.e 0,.c Ze1]
  ⟨[(0,.sl T_Role v0),(4,.loc 4 0 0),(9,.sl T_Role v9),(10,.int .i64 v10),(11,.int .i64 v11)],[(4,some (.var 2 (.agg [.str r4_0,.sl (.one .str) r4_1]))),(5001,none)]⟩
noncomputable def Zb0  (v0 : List T_Role.ty) (v63 : List T_Role.ty) (v64 : Int) (v65 : Int) : Option (Bool) :=
 goL Zde Zd3 (vleave Zdv [.d (.one (.sl T_Role))] [.d (.one .bool)] [] []) [.c Zmj,.l Zmt,.e 4,.c Zm1]
  ⟨[(0,.sl T_Role v0),(63,.sl T_Role v63),(64,.int .i64 v64),(65,.int .i64 v65)],[]⟩
noncomputable def Zbc  (v0 : List T_Role.ty) (v9 : List T_Role.ty) (v10 : Int) (v11 : Int) (v36 : List (List UInt8)) (v37 : Int) (v38 : Int) (r4_0 : List UInt8) (r4_1 : List (List UInt8)) : Option (Bool) :=
 goL Zde Zd3 (vleave Zdv [.d (.one (.sl T_Role))] [.d (.one .bool)] [] []) [.c Zms,.l Zm3,.e 2,.e 1,.c Zhm,.l Ze9,.e 0,.c Ze1]
  ⟨[(0,.sl T_Role v0),(4,.loc 4 0 0),(9,.sl T_Role v9),(10,.int .i64 v10),(11,.int .i64 v11),(36,.sl (.one .str) v36),(37,.int .i64 v37),(38,.int .i64 v38)],[(4,some (.var 2 (.agg [.str r4_0,.sl (.one .str) r4_1]))),(5001,none)]⟩
theorem Zvv (a0 : List T_Role.ty) : Zkf a0 =
 Zbf a0 a0 (a0.length : Int) 0 :=
 (mk_f _ _ _ _ _ _ _ 4000).trans (by kernel_rfl)
theorem Zjp  (v0 : List T_Role.ty) (v9 : List T_Role.ty) (v10 : Int) (v11 : Int) : Zbf v0 v9 v10 v11 =
 if decide (v11 < v10) then
  if decide (0 ≤ v11) then
   (v9[v11.toNat]?).bind fun x1 =>
    (Zip x1.1).bind fun x2 =>
     if (!x2) then
      some false
     else
      if decide (v11 > 0) then
       if decide (0 ≤ IntKind.i64.wrap (v11 - 1)) then
        (v0[(IntKind.i64.wrap (v11 - 1)).toNat]?).bind fun x3 =>
         if (!Op.bytesLess x3.1 x1.1) then
          some false
         else
          Zg6 v0 v9 v10 v11 x1.1 x1.2.1
       else
        none
      else
       Zg6 v0 v9 v10 v11 x1.1 x1.2.1
  else
   none
 else
  Zb0 v0 v0 (v0.length : Int) 0 :=
 (goL_dn _ _ _ 4000 _ _).trans (by kernel_rfl)
theorem Zrx  (v0 : List T_Role.ty) (v9 : List T_Role.ty) (v10 : Int) (v11 : Int) (r4_0 : List UInt8) (r4_1 : List (List UInt8)) : Zg6 v0 v9 v10 v11 r4_0 r4_1 =
 Zbc v0 v9 v10 v11 r4_1 (r4_1.length : Int) 0 r4_0 r4_1 :=
 (goL_dn _ _ _ 4000 _ _).trans (by kernel_rfl)
theorem Zjm  (v0 : List T_Role.ty) (v63 : List T_Role.ty) (v64 : Int) (v65 : Int) : Zb0 v0 v63 v64 v65 =
 if decide (v65 < v64) then
  if decide (0 ≤ v65) then
   (v63[v65.toNat]?).bind fun x1 =>
    (Zbl v0 x1.1).bind fun x2 =>
     (Zac x2 x1.1).bind fun x3 =>
      if x3 then
       some false
      else
       Zb0 v0 v63 v64 (IntKind.i64.wrap (v65 + 1))
  else
   none
 else
  (Zsj (v0.length : Int) 12).bind fun x4 =>
   some x4 :=
 (goL_dn _ _ _ 4000 _ _).trans (by kernel_rfl)
theorem Zjl  (v0 : List T_Role.ty) (v9 : List T_Role.ty) (v10 : Int) (v11 : Int) (v36 : List (List UInt8)) (v37 : Int) (v38 : Int) (r4_0 : List UInt8) (r4_1 : List (List UInt8)) : Zbc v0 v9 v10 v11 v36 v37 v38 r4_0 r4_1 =
 if decide (v38 < v37) then
  if decide (0 ≤ v38) then
   (v36[v38.toNat]?).bind fun x1 =>
    if decide (v38 > 0) then
     if decide (0 ≤ IntKind.i64.wrap (v38 - 1)) then
      (r4_1[(IntKind.i64.wrap (v38 - 1)).toNat]?).bind fun x2 =>
       if (!Op.bytesLess x2 x1) then
        some false
       else
        (Zfi v0 x1).bind fun x3 =>
         if decide (x3 < 0) then
          some false
         else
          Zbc v0 v9 v10 v11 v36 v37 (IntKind.i64.wrap (v38 + 1)) r4_0 r4_1
     else
      none
    else
     (Zfi v0 x1).bind fun x4 =>
      if decide (x4 < 0) then
       some false
      else
       Zbc v0 v9 v10 v11 v36 v37 (IntKind.i64.wrap (v38 + 1)) r4_0 r4_1
  else
   none
 else
  Zbf v0 v9 v10 (IntKind.i64.wrap (v11 + 1)) :=
 (goL_dn _ _ _ 4000 _ _).trans (by kernel_rfl)
def Zz6 : Fn := { np := 3,io := [],res := [.t 6],own := [false],body :=
 (.seq (.reg false [.V 6 (.asg (.c (.bool false)))] [0,1,2] []) (.seq (.reg false [.V 7 (.mv (.t 1)),.V 8 (.mv (.t 0)),.V 9 (.bin .leq (.t 7) (.t 8)),.V 10 (.mv (.t 9)),.G 11 (.mv (.t 0)) 3 true,.G 12 (.mv (.t 2)) 3 true,.G 13 (.bin .leq (.t 11) (.t 12)) 3 true,.V 14 (.pick (.t 10) (.t 13) (.c (.bool false))),.V 6 (.asg (.t 14))] [6] []) .ret)) }
noncomputable def Zte : List (Nat × Callee) := []
def Z1z : List (Nat × ET) := []
noncomputable def Znm : Callee := Zad Zte Z1z Zz6 [.d (.one (.int .i64)),.d (.one (.int .i64)),.d (.one (.int .i64))] [.d (.one .bool)] []
noncomputable def Zww (a0 : Int) (a1 : Int) (a2 : Int) : Option (Bool) := Znm.f (a0,a1,a2,())
theorem Zzw (a0 : Int) (a1 : Int) (a2 : Int) : Zww a0 a1 a2 =
 if decide (a1 ≤ a0) then
  some (decide (a0 ≤ a2))
 else
  some false :=
 (mk_f _ _ _ _ _ _ _ 4000).trans (by kernel_rfl)
def Zxm : Fn := { np := 1,io := [],res := [.t 2],own := [false],body :=
 (.seq (.reg false [.V 2 (.asg (.c (.bool false)))] [0] []) (.seq (.reg false [.V 3 (.mv (.t 0)),.V 4 (.call (.c (.fn 23 [])) [.t 3,.c (.int .i64 1),.c (.int .i64 3)]),.V 2 (.asg (.t 4))] [2] []) .ret)) }
noncomputable def Zqf : List (Nat × Callee) := [(23,Znm)]
def Zyp : List (Nat × ET) := []
noncomputable def Zj1 : Callee := Zad Zqf Zyp Zxm [.d (.one (.int .i64))] [.d (.one .bool)] []
noncomputable def Zta (a0 : Int) : Option (Bool) := Zj1.f (a0,())
theorem Zx7 (a0 : Int) : Zta a0 =
 (Zww a0 1 3).bind fun x1 =>
  some x1 :=
 (mk_f _ _ _ _ _ _ _ 4000).trans (by kernel_rfl)
def Zyu : Fn := { np := 2,io := [],res := [.t 4],own := [false],body :=
 (.seq (.reg false [.W 3 (.box 3 (.t 1)),.V 4 (.asg (.c (.bool false)))] [0,3] [3]) (.seq (.reg false [.V 5 (.mv (.t 0)),.V 6 (.fa 0 (.t 3)),.V 7 (.ld none (.t 6)),.V 8 (.call (.c (.fn 815 [])) [.t 5,.t 7]),.V 9 (.bin .geq (.t 8) (.c (.int .i64 0))),.V 10 (.mv (.t 9)),.G 11 (.fa 1 (.t 3)) 5 true,.G 12 (.ld none (.t 11)) 5 true,.G 13 (.call (.c (.fn 24 [])) [.t 12]) 5 true,.V 14 (.pick (.t 10) (.t 13) (.c (.bool false))),.V 15 (.mv (.t 14)),.G 16 (.fa 2 (.t 3)) 10 true,.G 17 (.ld none (.t 16)) 10 true,.G 18 (.call (.c (.fn 813 [])) [.t 17]) 10 true,.V 19 (.pick (.t 15) (.t 18) (.c (.bool false))),.V 4 (.asg (.t 19))] [4] []) .ret)) }
noncomputable def Zr7 : List (Nat × Callee) := [(24,Ziv),(813,Zj1),(815,Zgl)]
def Z0o : List (Nat × ET) := [(5,T_Role)]
noncomputable def Zhs : Callee := Zad Zr7 Z0o Zyu [.d (.one (.sl T_Role)),.d Zaa] [.d (.one .bool)] []
noncomputable def Zkd (a0 : List T_Role.ty) (a1 : Zaa.ty) : Option (Bool) := Zhs.f (a0,a1,())
theorem Zzg (a0 : List T_Role.ty) (a1 : Zaa.ty) : Zkd a0 a1 =
 (Zfi a0 a1.1).bind fun x1 =>
  if decide (x1 ≥ 0) then
   (Zip a1.2.1).bind fun x2 =>
    if x2 then
     (Zta a1.2.2.1).bind fun x3 =>
      some x3
    else
     some false
  else
   some false :=
 (mk_f _ _ _ _ _ _ _ 4000).trans (by kernel_rfl)
noncomputable def Zij : Callee := Z2u
noncomputable def strings_Compare (a0 : List UInt8) (a1 : List UInt8) : Option (Int) := Zij.f (a0,a1,())
theorem Zmz (a0 : List UInt8) (a1 : List UInt8) : strings_Compare a0 a1 = some (Lib.compareBytes a0 a1) := rfl
def Zrr : Fn := { np := 2,io := [],res := [.t 4],own := [false],body :=
 (.seq (.reg false [.W 2 (.box 3 (.t 0)),.W 3 (.box 3 (.t 1)),.V 4 (.asg (.c (.int .i64 0)))] [2,3] [2,3]) (.seq (.seq (.reg false [.V 7 (.fa 0 (.t 2)),.V 8 (.ld none (.t 7)),.V 9 (.fa 0 (.t 3)),.V 10 (.ld none (.t 9)),.V 11 (.call (.c (.fn 950 [])) [.t 8,.t 10]),.V 5 (.asg (.t 11))] [2,3,5] [2,3]) (.seq (.reg false [.V 12 (.mv (.t 5)),.V 13 (.bin .neq (.t 12) (.c (.int .i64 0)))] [2,3,5,13] [2,3]) (.cond (.t 13) (.seq (.reg false [.V 14 (.mv (.t 5)),.V 4 (.asg (.t 14))] [4] []) .ret) .skip))) (.seq (.seq (.reg false [.V 15 (.fa 1 (.t 2)),.V 16 (.ld none (.t 15)),.V 17 (.fa 1 (.t 3)),.V 18 (.ld none (.t 17)),.V 19 (.call (.c (.fn 950 [])) [.t 16,.t 18]),.V 6 (.asg (.t 19))] [2,3,6] [2,3]) (.seq (.reg false [.V 20 (.mv (.t 6)),.V 21 (.bin .neq (.t 20) (.c (.int .i64 0)))] [2,3,6,21] [2,3]) (.cond (.t 21) (.seq (.reg false [.V 22 (.mv (.t 6)),.V 4 (.asg (.t 22))] [4] []) .ret) .skip))) (.seq (.reg false [.V 23 (.fa 2 (.t 2)),.V 24 (.ld none (.t 23)),.V 25 (.fa 2 (.t 3)),.V 26 (.ld none (.t 25)),.V 27 (.bin .sub (.t 24) (.t 26)),.V 4 (.asg (.t 27))] [4] []) .ret)))) }
noncomputable def Zkq : List (Nat × Callee) := [(950,Zij)]
def Zsv : List (Nat × ET) := []
noncomputable def Zc7 : Callee := Zad Zkq Zsv Zrr [.d Zaa,.d Zaa] [.d (.one (.int .i64))] []
noncomputable def Zcf (a0 : Zaa.ty) (a1 : Zaa.ty) : Option (Int) := Zc7.f (a0,a1,())
theorem Zr1 (a0 : Zaa.ty) (a1 : Zaa.ty) : Zcf a0 a1 =
 (strings_Compare a0.1 a1.1).bind fun x1 =>
  if (x1 != 0) then
   some x1
  else
   (strings_Compare a0.2.1 a1.2.1).bind fun x2 =>
    if (x2 != 0) then
     some x2
    else
     some (IntKind.i64.wrap (a0.2.2.1 - a1.2.2.1)) :=
 (mk_f _ _ _ _ _ _ _ 4000).trans (by kernel_rfl)
def Zlg : C :=
 .seq (.reg false [.V 19 (.bin .lss (.t 18) (.t 17))] [0,1,16,17,18,19] []) (.seq (.cond (.t 19) .skip (.exit 0)) (.seq (.block 1 (.seq (.reg false [.V 20 (.mv (.t 18)),.V 21 (.ia 3 (.t 16) (.t 18)),.V 22 (.ld (some 3) (.t 21)),.W 6 (.alloc 3 (.agg [.str [],.str [],.int .i64 0])),.V 5 (.asg (.t 20)),⟨none,true,.sto 3 (.t 6) (.t 22),none,false,[]⟩] [0,1,5,6,16,17,18] [6]) (.seq (.reg true [.V 23 (.mv (.t 0)),.V 24 (.ld (some 3) (.t 6)),.V 25 (.call (.c (.fn 735 [])) [.t 23,.t 24]),.V 26 (.un .not (.t 25)),.V 27 (.mv (.t 26)),.G 28 (.mv (.t 5)) 4 false,.G 29 (.bin .gtr (.t 28) (.c (.int .i64 0))) 4 false,.G 30 (.mv (.t 29)) 4 false,.G 31 (.mv (.t 1)) 7 true,.G 32 (.mv (.t 5)) 7 true,.G 33 (.bin .sub (.t 32) (.c (.int .i64 1))) 7 true,.G 34 (.ia 3 (.t 31) (.t 33)) 7 true,.G 35 (.ld (some 3) (.t 34)) 7 true,.G 36 (.ld (some 3) (.t 6)) 7 true,.G 37 (.call (.c (.fn 734 [])) [.t 35,.t 36]) 7 true,.G 38 (.bin .geq (.t 37) (.c (.int .i64 0))) 7 true,.G 39 (.pick (.t 30) (.t 38) (.c (.bool false))) 4 false,.V 40 (.pick (.t 27) (.c (.bool true)) (.t 39))] [0,1,16,17,18,40] []) (.cond (.t 40) (.seq (.reg false [.V 4 (.asg (.c (.bool false)))] [4] []) .ret) .skip)))) (.reg false [.V 41 (.bin .add (.t 18) (.c (.int .i64 1))),.V 18 (.mv (.t 41))] [0,1,16,17,18] [])))
def Zky : C :=
 .norm [0,1,16,17,18] [] Zlg
def Zk9 : C :=
 .seq (.reg false [.V 4 (.asg (.c (.bool true)))] [4] []) .ret
def Zlm : C :=
 .seq (.seq (.reg false [.V 16 (.mv (.t 1)),.V 17 (.len (.t 16)),.V 18 (.mv (.c (.int .i64 0)))] [0,1,16,17,18] []) (.block 0 (.loop Zky))) Zk9
def Zgq : Fn := { np := 2,io := [],res := [.t 4],own := [false],body :=
 (.seq (.reg false [.V 4 (.asg (.c (.bool false)))] [0,1] []) (.seq (.seq (.reg false [.V 7 (.mv (.t 0)),.V 8 (.call (.c (.fn 817 [])) [.t 7]),.V 9 (.un .not (.t 8)),.V 10 (.mv (.t 9)),.G 11 (.mv (.t 1)) 3 false,.G 12 (.len (.t 11)) 3 false,.G 13 (.call (.c (.fn 21 [])) [.t 12,.c (.int .i64 48)]) 3 false,.G 14 (.un .not (.t 13)) 3 false,.V 15 (.pick (.t 10) (.c (.bool true)) (.t 14))] [0,1,15] []) (.cond (.t 15) (.seq (.reg false [.V 4 (.asg (.c (.bool false)))] [4] []) .ret) .skip)) (.norm [0,1] [] Zlm))) }
noncomputable def Ze8 : List (Nat × Callee) := [(21,Zkt),(734,Zc7),(735,Zhs),(817,Zia)]
def Zg4 : List (Nat × ET) := [(7,T_Role),(11,Zaa),(16,Zaa),(23,T_Role),(31,Zaa)]
noncomputable def Zcy : Callee := Zad Ze8 Zg4 Zgq [.d (.one (.sl T_Role)),.d (.one (.sl Zaa))] [.d (.one .bool)] []
noncomputable def Zdq (a0 : List T_Role.ty) (a1 : List Zaa.ty) : Option (Bool) := Zcy.f (a0,a1,())
noncomputable def Zk0  (v0 : List T_Role.ty) (v1 : List Zaa.ty) : Option (Bool) :=
 goL Ze8 Zg4 (vleave Zgq [.d (.one (.sl T_Role)),.d (.one (.sl Zaa))] [.d (.one .bool)] [] []) [.c Zlm]
  ⟨[(0,.sl T_Role v0),(1,.sl Zaa v1)],[]⟩
noncomputable def Zbk  (v0 : List T_Role.ty) (v1 : List Zaa.ty) (v16 : List Zaa.ty) (v17 : Int) (v18 : Int) : Option (Bool) :=
 goL Ze8 Zg4 (vleave Zgq [.d (.one (.sl T_Role)),.d (.one (.sl Zaa))] [.d (.one .bool)] [] []) [.c Zlg,.l Zky,.e 0,.c Zk9]
  ⟨[(0,.sl T_Role v0),(1,.sl Zaa v1),(16,.sl Zaa v16),(17,.int .i64 v17),(18,.int .i64 v18)],[]⟩
theorem Zt6 (a0 : List T_Role.ty) (a1 : List Zaa.ty) : Zdq a0 a1 =
 (Zkf a0).bind fun x1 =>
  if (!x1) then
   some false
  else
   (Zsj (a1.length : Int) 48).bind fun x2 =>
    if (!x2) then
     some false
    else
     Zk0 a0 a1 :=
 (mk_f _ _ _ _ _ _ _ 4000).trans (by kernel_rfl)
theorem Zra  (v0 : List T_Role.ty) (v1 : List Zaa.ty) : Zk0 v0 v1 =
 Zbk v0 v1 v1 (v1.length : Int) 0 :=
 (goL_dn _ _ _ 4000 _ _).trans (by kernel_rfl)
theorem Zio  (v0 : List T_Role.ty) (v1 : List Zaa.ty) (v16 : List Zaa.ty) (v17 : Int) (v18 : Int) : Zbk v0 v1 v16 v17 v18 =
 if decide (v18 < v17) then
  if decide (0 ≤ v18) then
   (v16[v18.toNat]?).bind fun x1 =>
    (Zkd v0 x1).bind fun x2 =>
     if (!x2) then
      some false
     else
      if decide (v18 > 0) then
       if decide (0 ≤ IntKind.i64.wrap (v18 - 1)) then
        (v1[(IntKind.i64.wrap (v18 - 1)).toNat]?).bind fun x3 =>
         (Zcf x3 x1).bind fun x4 =>
          if decide (x4 ≥ 0) then
           some false
          else
           Zbk v0 v1 v16 v17 (IntKind.i64.wrap (v18 + 1))
       else
        none
      else
       Zbk v0 v1 v16 v17 (IntKind.i64.wrap (v18 + 1))
  else
   none
 else
  some true :=
 (goL_dn _ _ _ 4000 _ _).trans (by kernel_rfl)
def Zap : C :=
 .seq (.seq (.reg false [.V 15 (.mv (.t 9)),.V 16 (.mv (.t 10)),.V 17 (.bin .lss (.t 15) (.t 16))] [0,2,4,8,9,10,17] [4]) (.cond (.t 17) .skip (.exit 0))) (.block 1 (.seq (.reg false [.V 18 (.mv (.t 9)),.V 19 (.mv (.t 10)),.V 20 (.bin .add (.t 18) (.t 19)),.V 21 (.conv (.int .u64) (.t 20)),.V 22 (.bin .shr (.t 21) (.c (.int .u64 1))),.V 23 (.conv (.int .i64) (.t 22)),.V 11 (.asg (.t 23))] [0,2,4,8,9,10,11] [4]) (.seq (.reg true [.V 24 (.mv (.t 2)),.V 25 (.mv (.t 0)),.V 26 (.mv (.t 11)),.V 27 (.ia 3 (.t 25) (.t 26)),.V 28 (.ld (some 3) (.t 27)),.V 29 (.ld (some 3) (.t 4)),.V 30 (.call (.t 24) [.t 28,.t 29]),.V 31 (.bin .lss (.t 30) (.c (.int .i64 0)))] [0,2,4,8,9,10,11,31] [4]) (.cond (.t 31) (.reg false [.V 32 (.mv (.t 11)),.V 33 (.bin .add (.t 32) (.c (.int .i64 1))),.V 9 (.asg (.t 33))] [0,2,4,8,9,10] [4]) (.reg false [.V 34 (.mv (.t 11)),.V 10 (.asg (.t 34))] [0,2,4,8,9,10] [4])))))
def Zaq : C :=
 .norm [0,2,4,8,9,10] [4] Zap
def Zar : C :=
 .seq (.reg true [.V 35 (.mv (.t 9)),.V 36 (.mv (.t 9)),.V 37 (.mv (.t 8)),.V 38 (.bin .lss (.t 36) (.t 37)),.V 39 (.mv (.t 38)),.G 40 (.mv (.t 2)) 4 true,.G 41 (.mv (.t 0)) 4 true,.G 42 (.mv (.t 9)) 4 true,.G 43 (.ia 3 (.t 41) (.t 42)) 4 true,.G 44 (.ld (some 3) (.t 43)) 4 true,.G 45 (.ld (some 3) (.t 4)) 4 true,.G 46 (.call (.t 40) [.t 44,.t 45]) 4 true,.G 47 (.bin .eql (.t 46) (.c (.int .i64 0))) 4 true,.V 48 (.pick (.t 39) (.t 47) (.c (.bool false))),.V 6 (.asg (.t 35)),.V 7 (.asg (.t 48))] [6,7] []) .ret
def Zas : Fn := { np := 3,io := [],res := [.t 6,.t 7],own := [false,false],body :=
 (.seq (.reg false [.W 4 (.box 3 (.t 1)),.V 6 (.asg (.c (.int .i64 0))),.V 7 (.asg (.c (.bool false)))] [0,2,4] [4]) (.seq (.reg false [.V 12 (.mv (.t 0)),.V 13 (.len (.t 12)),.V 8 (.asg (.t 13))] [0,2,4,8] [4]) (.seq (.reg false [.V 14 (.mv (.t 8)),.V 9 (.asg (.c (.int .i64 0))),.V 10 (.asg (.t 14))] [0,2,4,8,9,10] [4]) (.seq (.block 0 (.loop Zaq)) Zar)))) }
noncomputable def Zag : List (Nat × Callee) := [(734,Zc7)]
def Zat : List (Nat × ET) := [(12,Zaa),(25,Zaa),(41,Zaa)]
noncomputable def Zaf : Callee := Zad Zag Zat Zas [.d (.one (.sl Zaa)),.d Zaa,.fn 734 []] [.d (.one (.int .i64)),.d (.one .bool)] []
noncomputable def Zah (a0 : List Zaa.ty) (a1 : Zaa.ty) (a2 : Unit) : Option (Int × Bool) := Zaf.f (a0,a1,a2,())
noncomputable def Zae  (v0 : List Zaa.ty) (v8 : Int) (v9 : Int) (v10 : Int) (r4_0 : List UInt8) (r4_1 : List UInt8) (r4_2 : Int) : Option (Int × Bool) :=
 goL Zag Zat (vleave Zas [.d (.one (.sl Zaa)),.d Zaa,.fn 734 []] [.d (.one (.int .i64)),.d (.one .bool)] [] []) [.c Zap,.l Zaq,.e 0,.c Zar]
  ⟨[(0,.sl Zaa v0),(2,.fn 734 []),(4,.loc 4 0 0),(8,.int .i64 v8),(9,.int .i64 v9),(10,.int .i64 v10)],[(4,some (.var 3 (.agg [.str r4_0,.str r4_1,.int .i64 r4_2])))]⟩
theorem Zb2 (a0 : List Zaa.ty) (a1 : Zaa.ty) (a2 : Unit) : Zah a0 a1 a2 =
 Zae a0 (a0.length : Int) 0 (a0.length : Int) a1.1 a1.2.1 a1.2.2.1 :=
 (mk_f _ _ _ _ _ _ _ 4000).trans (by kernel_rfl)
theorem Zbr  (v0 : List Zaa.ty) (v8 : Int) (v9 : Int) (v10 : Int) (r4_0 : List UInt8) (r4_1 : List UInt8) (r4_2 : Int) : Zae v0 v8 v9 v10 r4_0 r4_1 r4_2 =
 if decide (v9 < v10) then
  if decide (0 ≤ IntKind.i64.wrap (Int.fdiv (IntKind.u64.wrap (IntKind.i64.wrap (v9 + v10))) (2 ^ (min (1 : Int).toNat IntKind.u64.bits)))) then
   (v0[(IntKind.i64.wrap (Int.fdiv (IntKind.u64.wrap (IntKind.i64.wrap (v9 + v10))) (2 ^ (min (1 : Int).toNat IntKind.u64.bits)))).toNat]?).bind fun x1 =>
    (Zcf x1 (r4_0,r4_1,r4_2,())).bind fun x2 =>
     if decide (x2 < 0) then
      Zae v0 v8 (IntKind.i64.wrap ((IntKind.i64.wrap (Int.fdiv (IntKind.u64.wrap (IntKind.i64.wrap (v9 + v10))) (2 ^ (min (1 : Int).toNat IntKind.u64.bits)))) + 1)) v10 r4_0 r4_1 r4_2
     else
      Zae v0 v8 v9 (IntKind.i64.wrap (Int.fdiv (IntKind.u64.wrap (IntKind.i64.wrap (v9 + v10))) (2 ^ (min (1 : Int).toNat IntKind.u64.bits)))) r4_0 r4_1 r4_2
  else
   none
 else
  if decide (v9 < v8) then
   if decide (0 ≤ v9) then
    (v0[v9.toNat]?).bind fun x3 =>
     (Zcf x3 (r4_0,r4_1,r4_2,())).bind fun x4 =>
      some (v9,(x4 == 0))
   else
    none
  else
   some (v9,false) :=
 (goL_dn _ _ _ 4000 _ _).trans (by kernel_rfl)
def Zoi : Fn := { np := 1,io := [],res := [.t 2],own := [true],body :=
 (.seq (.reg false [.W 2 (.asg (.c (.nils 3)))] [0] []) (.seq (.reg false [.V 3 (.mv (.t 0)),.V 4 (.len (.t 3)),.V 5 (.mks 3 40 (.agg [.str [],.str [],.int .i64 0]) (.c (.int .i64 0)) (.t 4)),.V 6 (.mv (.t 0)),.W 7 (.app 3 40 (.t 5) (.t 6)),.W 2 (.asg (.t 7))] [2] [2]) .ret)) }
noncomputable def Zhi : List (Nat × Callee) := []
def Zpl : List (Nat × ET) := [(2,Zaa),(3,Zaa),(5,Zaa),(6,Zaa),(7,Zaa)]
noncomputable def Zce : Callee := Zad Zhi Zpl Zoi [.d (.one (.sl Zaa))] [.tok Zaa] []
noncomputable def Zcq (a0 : List Zaa.ty) : Option (List Zaa.ty) := Zce.f (a0,())
theorem Zoa (a0 : List Zaa.ty) : Zcq a0 =
 if decide (0 ≤ (a0.length : Int)) && decide ((a0.length : Int).toNat < lim) then
  if decide (0 + a0.length < lim) then
   some (([] ++ a0).take (([] ++ a0).length))
  else
   none
 else
  none :=
 (mk_f _ _ _ _ _ _ _ 4000).trans (by kernel_rfl)
noncomputable def Zb3 : Callee := insertC Zaa
noncomputable def Zcb (a0 : List Zaa.ty) (a1 : Int) (a2 : List Zaa.ty) : Option (List Zaa.ty × Unit) := Zb3.f (a0,a1,a2,())
theorem Zfr (a0 : List Zaa.ty) (a1 : Int) (a2 : List Zaa.ty) : Zcb a0 a1 a2 = if decide (a2.length = 1) && (decide (0 ≤ a1) && (decide (a1 ≤ (a0.length : Int)) && decide (a0.length + 1 < 1099511627776))) then some (a0.take a1.toNat ++ a2 ++ a0.drop a1.toNat,()) else none := rfl
def Zxw : Fn := { np := 3,io := [],res := [.t 6,.t 7],own := [false,false],body :=
 (.seq (.reg false [.W 5 (.box 3 (.t 2)),.W 6 (.asg (.c (.nils 3))),.V 7 (.asg (.c (.int .i64 0)))] [0,1,5] [5]) (.seq (.seq (.reg false [.V 10 (.mv (.t 0)),.V 11 (.mv (.t 1)),.V 12 (.call (.c (.fn 736 [])) [.t 10,.t 11]),.V 13 (.un .not (.t 12))] [0,1,5,13] [5]) (.cond (.t 13) (.seq (.reg false [.W 6 (.asg (.c (.nils 3))),.V 7 (.asg (.c (.int .i64 1)))] [6,7] [6]) .ret) .skip)) (.seq (.seq (.reg false [.V 14 (.mv (.t 0)),.V 15 (.ld (some 3) (.t 5)),.V 16 (.call (.c (.fn 735 [])) [.t 14,.t 15]),.V 17 (.un .not (.t 16))] [1,5,17] [5]) (.cond (.t 17) (.seq (.reg false [.W 6 (.asg (.c (.nils 3))),.V 7 (.asg (.c (.int .i64 2)))] [6,7] [6]) .ret) .skip)) (.seq (.reg false [.V 19 (.mv (.t 1)),.V 20 (.ld (some 3) (.t 5)),.V 21 (.call (.c (.fn 1299 [])) [.t 19,.t 20,.c (.fn 734 [])]),.V 18 (.mv (.t 21)),.V 22 (.ext (.t 18) 0),.V 23 (.ext (.t 18) 1),.V 8 (.asg (.t 22)),.V 9 (.asg (.t 23))] [1,5,8,9] [5]) (.seq (.block 0 (.seq (.reg false [.V 25 (.mv (.t 9)),.V 24 (.asg (.t 25))] [1,5,8,24] [5]) (.cond (.t 24) (.seq (.reg false [.W 6 (.asg (.c (.nils 3))),.V 7 (.asg (.c (.int .i64 4)))] [6,7] [6]) .ret) (.seq (.reg false [.V 27 (.mv (.t 1)),.V 28 (.len (.t 27)),.V 29 (.bin .eql (.t 28) (.c (.int .i64 48))),.V 26 (.asg (.t 29))] [1,5,8,26] [5]) (.cond (.t 26) (.seq (.reg false [.W 6 (.asg (.c (.nils 3))),.V 7 (.asg (.c (.int .i64 5)))] [6,7] [6]) .ret) .skip))))) (.seq (.reg true [.V 30 (.mv (.t 1)),.V 31 (.call (.c (.fn 731 [])) [.t 30]),.V 32 (.mv (.t 8)),.V 33 (.ld (some 3) (.t 5)),.V 34 (.bsl 3 (.agg [.str [],.str [],.int .i64 0]) 1 [(0,.t 33)]),.W 35 (.call (.c (.fn 732 [])) [.t 31,.t 32,.t 34]),.W 6 (.asg (.t 35)),.V 7 (.asg (.c (.int .i64 0)))] [6,7] [6]) .ret)))))) }
noncomputable def Zqm : List (Nat × Callee) := [(731,Zce),(732,Zb3),(734,Zc7),(735,Zhs),(736,Zcy),(1299,Zaf)]
def Zy4 : List (Nat × ET) := [(6,Zaa),(10,T_Role),(11,Zaa),(14,T_Role),(19,Zaa),(27,Zaa),(30,Zaa),(31,Zaa),(34,Zaa),(35,Zaa)]
noncomputable def Zkk : Callee := Zad Zqm Zy4 Zxw [.d (.one (.sl T_Role)),.d (.one (.sl Zaa)),.d Zaa] [.d (.one (.sl Zaa)),.d (.one (.int .i64))] []
noncomputable def Zi2 (a0 : List T_Role.ty) (a1 : List Zaa.ty) (a2 : Zaa.ty) : Option (List Zaa.ty × Int) := Zkk.f (a0,a1,a2,())
theorem Zw0 (a0 : List T_Role.ty) (a1 : List Zaa.ty) (a2 : Zaa.ty) : Zi2 a0 a1 a2 =
 (Zdq a0 a1).bind fun x1 =>
  if (!x1) then
   some ([],1)
  else
   (Zkd a0 a2).bind fun x2 =>
    if (!x2) then
     some ([],2)
    else
     (Zah a1 a2 ()).bind fun x3 =>
      if x3.2 then
       some ([],4)
      else
       if ((a1.length : Int) == 48) then
        some ([],5)
       else
        (Zcq a1).bind fun x4 =>
         if decide (x4.length = x4.length) then
          (Zcb x4 x3.1 [a2]).bind fun x5 =>
           some ((x5.1.take x5.1.length),0)
         else
          none :=
 (mk_f _ _ _ _ _ _ _ 4000).trans (by kernel_rfl)
def Zc9 : C :=
 .seq (.reg false [.V 9 (.bin .lss (.t 8) (.t 7))] [0,3,7,8,9] [3]) (.seq (.cond (.t 9) .skip (.exit 0)) (.seq (.block 1 (.seq (.reg false [.V 10 (.mv (.t 8)),.V 5 (.asg (.t 10))] [0,3,5,7,8] [3]) (.seq (.reg true [.V 11 (.ld (some 3) (.t 3)),.V 12 (.mv (.t 0)),.V 13 (.mv (.t 5)),.V 14 (.ia 3 (.t 12) (.t 13)),.V 15 (.ld (some 3) (.t 14)),.V 16 (.eqs false [.s,.s,.i] (.t 11) (.t 15))] [0,3,5,7,8,16] [3]) (.cond (.t 16) (.seq (.reg false [.V 17 (.mv (.t 5)),.V 4 (.asg (.t 17))] [4] []) .ret) .skip)))) (.reg false [.V 18 (.bin .add (.t 8) (.c (.int .i64 1))),.V 8 (.mv (.t 18))] [0,3,7,8] [3])))
def Zc8 : C :=
 .norm [0,3,7,8] [3] Zc9
def Zda : C :=
 .seq (.reg false [.V 4 (.asg (.c (.int .i64 (-1))))] [4] []) .ret
def Zdb : Fn := { np := 2,io := [],res := [.t 4],own := [false],body :=
 (.seq (.reg false [.W 3 (.box 3 (.t 1)),.V 4 (.asg (.c (.int .i64 0)))] [0,3] [3]) (.seq (.seq (.reg false [.V 6 (.mv (.t 0)),.V 7 (.len (.t 6)),.V 8 (.mv (.c (.int .i64 0)))] [0,3,7,8] [3]) (.block 0 (.loop Zc8))) Zda)) }
noncomputable def Zb8 : List (Nat × Callee) := []
def Zdl : List (Nat × ET) := [(6,Zaa),(12,Zaa)]
noncomputable def Zb7 : Callee := Zad Zb8 Zdl Zdb [.d (.one (.sl Zaa)),.d Zaa] [.d (.one (.int .i64))] []
noncomputable def Zcd (a0 : List Zaa.ty) (a1 : Zaa.ty) : Option (Int) := Zb7.f (a0,a1,())
noncomputable def Za1  (v0 : List Zaa.ty) (v7 : Int) (v8 : Int) (r3_0 : List UInt8) (r3_1 : List UInt8) (r3_2 : Int) : Option (Int) :=
 goL Zb8 Zdl (vleave Zdb [.d (.one (.sl Zaa)),.d Zaa] [.d (.one (.int .i64))] [] []) [.c Zc9,.l Zc8,.e 0,.c Zda]
  ⟨[(0,.sl Zaa v0),(3,.loc 3 0 0),(7,.int .i64 v7),(8,.int .i64 v8)],[(3,some (.var 3 (.agg [.str r3_0,.str r3_1,.int .i64 r3_2])))]⟩
theorem Zgf (a0 : List Zaa.ty) (a1 : Zaa.ty) : Zcd a0 a1 =
 Za1 a0 (a0.length : Int) 0 a1.1 a1.2.1 a1.2.2.1 :=
 (mk_f _ _ _ _ _ _ _ 4000).trans (by kernel_rfl)
theorem Zcu  (v0 : List Zaa.ty) (v7 : Int) (v8 : Int) (r3_0 : List UInt8) (r3_1 : List UInt8) (r3_2 : Int) : Za1 v0 v7 v8 r3_0 r3_1 r3_2 =
 if decide (v8 < v7) then
  if decide (0 ≤ v8) then
   (v0[v8.toNat]?).bind fun x1 =>
    if ((r3_0 == x1.1) && ((r3_1 == x1.2.1) && (r3_2 == x1.2.2.1))) then
     some v8
    else
     Za1 v0 v7 (IntKind.i64.wrap (v8 + 1)) r3_0 r3_1 r3_2
  else
   none
 else
  some (-1) :=
 (goL_dn _ _ _ 4000 _ _).trans (by kernel_rfl)
noncomputable def Za2 : Callee := deleteC Zaa
noncomputable def Za5 (a0 : List Zaa.ty) (a1 : Int) (a2 : Int) : Option (List Zaa.ty × Unit) := Za2.f (a0,a1,a2,())
theorem Zft (a0 : List Zaa.ty) (a1 : Int) (a2 : Int) : Za5 a0 a1 a2 = if decide (0 ≤ a1) && (decide (a1 < a2) && (decide (a2 ≤ (a0.length : Int)) && decide (a0.length < 1099511627776))) then some (a0.take a1.toNat ++ a0.drop a2.toNat,()) else none := rfl
def Zuo : Fn := { np := 3,io := [],res := [.t 6,.t 7],own := [false,false],body :=
 (.seq (.reg false [.W 5 (.box 3 (.t 2)),.W 6 (.asg (.c (.nils 3))),.V 7 (.asg (.c (.int .i64 0)))] [0,1,5] [5]) (.seq (.seq (.reg false [.V 9 (.mv (.t 0)),.V 10 (.mv (.t 1)),.V 11 (.call (.c (.fn 736 [])) [.t 9,.t 10]),.V 12 (.un .not (.t 11))] [1,5,12] [5]) (.cond (.t 12) (.seq (.reg false [.W 6 (.asg (.c (.nils 3))),.V 7 (.asg (.c (.int .i64 1)))] [6,7] [6]) .ret) .skip)) (.seq (.reg false [.V 13 (.mv (.t 1)),.V 14 (.ld (some 3) (.t 5)),.V 15 (.call (.c (.fn 738 [])) [.t 13,.t 14]),.V 8 (.asg (.t 15))] [1,8] []) (.seq (.seq (.reg false [.V 16 (.mv (.t 8)),.V 17 (.bin .lss (.t 16) (.c (.int .i64 0)))] [1,8,17] []) (.cond (.t 17) (.seq (.reg false [.W 6 (.asg (.c (.nils 3))),.V 7 (.asg (.c (.int .i64 3)))] [6,7] [6]) .ret) .skip)) (.seq (.reg false [.V 18 (.mv (.t 1)),.V 19 (.call (.c (.fn 731 [])) [.t 18]),.V 20 (.mv (.t 8)),.V 21 (.mv (.t 8)),.V 22 (.bin .add (.t 21) (.c (.int .i64 1))),.W 23 (.call (.c (.fn 737 [])) [.t 19,.t 20,.t 22]),.W 6 (.asg (.t 23)),.V 7 (.asg (.c (.int .i64 0)))] [6,7] [6]) .ret))))) }
noncomputable def Zmv : List (Nat × Callee) := [(731,Zce),(736,Zcy),(737,Za2),(738,Zb7)]
def Zut : List (Nat × ET) := [(6,Zaa),(9,T_Role),(10,Zaa),(13,Zaa),(18,Zaa),(19,Zaa),(23,Zaa)]
noncomputable def Zhn : Callee := Zad Zmv Zut Zuo [.d (.one (.sl T_Role)),.d (.one (.sl Zaa)),.d Zaa] [.d (.one (.sl Zaa)),.d (.one (.int .i64))] []
noncomputable def Zgb (a0 : List T_Role.ty) (a1 : List Zaa.ty) (a2 : Zaa.ty) : Option (List Zaa.ty × Int) := Zhn.f (a0,a1,a2,())
theorem Zum (a0 : List T_Role.ty) (a1 : List Zaa.ty) (a2 : Zaa.ty) : Zgb a0 a1 a2 =
 (Zdq a0 a1).bind fun x1 =>
  if (!x1) then
   some ([],1)
  else
   (Zcd a1 a2).bind fun x2 =>
    if decide (x2 < 0) then
     some ([],3)
    else
     (Zcq a1).bind fun x3 =>
      if decide (x3.length = x3.length) then
       (Za5 x3 x2 (IntKind.i64.wrap (x2 + 1))).bind fun x4 =>
        some ((x4.1.take x4.1.length),0)
      else
       none :=
 (mk_f _ _ _ _ _ _ _ 4000).trans (by kernel_rfl)
def Zuk : Fn := { np := 2,io := [],res := [.t 4],own := [false],body :=
 (.seq (.reg false [.V 4 (.asg (.c (.bool false)))] [0,1] []) (.seq (.reg false [.V 5 (.mv (.t 0)),.V 6 (.mv (.t 1)),.V 7 (.call (.c (.fn 739 [])) [.t 5,.t 6]),.V 4 (.asg (.t 7))] [4] []) .ret)) }
noncomputable def Zml : List (Nat × Callee) := [(739,Zfl)]
def Zvf : List (Nat × ET) := [(5,T_Role),(6,Zaa)]
noncomputable def Zhk : Callee := Zad Zml Zvf Zuk [.d (.one (.sl T_Role)),.d (.one (.sl Zaa))] [.d (.one .bool)] []
noncomputable def Zjb (a0 : List T_Role.ty) (a1 : List Zaa.ty) : Option (Bool) := Zhk.f (a0,a1,())
theorem Ztw (a0 : List T_Role.ty) (a1 : List Zaa.ty) : Zjb a0 a1 =
 (Zh1 a0 a1).bind fun x1 =>
  some x1 :=
 (mk_f _ _ _ _ _ _ _ 4000).trans (by kernel_rfl)
def Zrm : C :=
 .seq (.seq (.reg false [.V 17 (.mv (.t 12)),.V 18 (.mv (.t 1)),.V 19 (.len (.t 18)),.V 20 (.bin .lss (.t 17) (.t 19))] [0,1,2,3,4,11,12,20] [11]) (.cond (.t 20) .skip (.exit 0))) (.seq (.block 1 (.seq (.reg false [.V 23 (.mv (.t 0)),.V 24 (.mv (.t 1)),.V 25 (.mv (.t 12)),.V 26 (.ia 3 (.t 24) (.t 25)),.V 27 (.fa 0 (.t 26)),.V 28 (.ld none (.t 27)),.V 29 (.call (.c (.fn 740 [])) [.t 23,.t 28]),.V 13 (.asg (.t 29))] [0,1,2,3,4,11,12,13] [11]) (.seq (.reg false [.V 30 (.mv (.t 13)),.V 31 (.mv (.t 2)),.V 32 (.bin .eql (.t 30) (.t 31)),.V 33 (.mv (.t 32)),.G 34 (.mv (.t 11)) 3 false,.G 35 (.mv (.t 13)) 3 false,.G 36 (.ia 1 (.t 34) (.t 35)) 3 false,.G 37 (.ld none (.t 36)) 3 false,.V 38 (.pick (.t 33) (.c (.bool true)) (.t 37)),.V 39 (.mv (.t 38)),.G 40 (.mv (.t 1)) 9 true,.G 41 (.mv (.t 12)) 9 true,.G 42 (.ia 3 (.t 40) (.t 41)) 9 true,.G 43 (.fa 1 (.t 42)) 9 true,.G 44 (.ld none (.t 43)) 9 true,.G 45 (.mv (.t 3)) 9 true,.G 46 (.bin .eql (.t 44) (.t 45)) 9 true,.V 47 (.pick (.t 39) (.t 46) (.c (.bool false))),.V 48 (.mv (.t 47)),.G 49 (.mv (.t 1)) 18 true,.G 50 (.mv (.t 12)) 18 true,.G 51 (.ia 3 (.t 49) (.t 50)) 18 true,.G 52 (.fa 2 (.t 51)) 18 true,.G 53 (.ld none (.t 52)) 18 true,.G 54 (.mv (.t 4)) 18 true,.G 55 (.bin .geq (.t 53) (.t 54)) 18 true,.V 56 (.pick (.t 48) (.t 55) (.c (.bool false)))] [0,1,2,3,4,11,12,56] [11]) (.cond (.t 56) (.seq (.reg false [.V 10 (.asg (.c (.bool true)))] [10] []) .ret) .skip)))) (.reg false [.V 21 (.mv (.t 12)),.V 22 (.bin .add (.t 21) (.c (.int .i64 1))),.V 12 (.asg (.t 22))] [0,1,2,3,4,11,12] [11]))
def Zsb : C :=
 .norm [0,1,2,3,4,11,12] [11] Zrm
def Zrq : C :=
 .seq (.reg false [.V 10 (.asg (.c (.bool false)))] [10] []) .ret
def Zr2 : Fn := { np := 5,io := [],res := [.t 10],own := [false],body :=
 (.seq (.reg false [.V 10 (.asg (.c (.bool false)))] [0,1,2,3,4] []) (.seq (.reg false [.V 14 (.mv (.t 0)),.V 15 (.mv (.t 2)),.V 16 (.call (.c (.fn 955 [])) [.t 14,.t 15]),.W 11 (.asg (.t 16))] [0,1,2,3,4,11] [11]) (.seq (.seq (.reg false [.V 12 (.asg (.c (.int .i64 0)))] [0,1,2,3,4,11,12] [11]) (.block 0 (.loop Zsb))) Zrq))) }
noncomputable def Zne : List (Nat × Callee) := [(740,Zdr),(955,Zgw)]
def Ztj : List (Nat × ET) := [(11,(.one .bool)),(14,T_Role),(16,(.one .bool)),(18,Zaa),(23,T_Role),(24,Zaa),(34,(.one .bool)),(40,Zaa),(49,Zaa)]
noncomputable def Znk : Callee := Zad Zne Ztj Zr2 [.d (.one (.sl T_Role)),.d (.one (.sl Zaa)),.d (.one (.int .i64)),.d (.one .str),.d (.one (.int .i64))] [.d (.one .bool)] []
noncomputable def Zre (a0 : List T_Role.ty) (a1 : List Zaa.ty) (a2 : Int) (a3 : List UInt8) (a4 : Int) : Option (Bool) := Znk.f (a0,a1,a2,a3,a4,())
noncomputable def Zbt  (v0 : List T_Role.ty) (v1 : List Zaa.ty) (v2 : Int) (v3 : List UInt8) (v4 : Int) (v11 : List Bool) (v12 : Int) : Option (Bool) :=
 goL Zne Ztj (vleave Zr2 [.d (.one (.sl T_Role)),.d (.one (.sl Zaa)),.d (.one (.int .i64)),.d (.one .str),.d (.one (.int .i64))] [.d (.one .bool)] [] []) [.c Zrm,.l Zsb,.e 0,.c Zrq]
  ⟨[(0,.sl T_Role v0),(1,.sl Zaa v1),(2,.int .i64 v2),(3,.str v3),(4,.int .i64 v4),(11,.sl (.one .bool) v11),(12,.int .i64 v12)],[(11,none)]⟩
theorem Zz2 (a0 : List T_Role.ty) (a1 : List Zaa.ty) (a2 : Int) (a3 : List UInt8) (a4 : Int) : Zre a0 a1 a2 a3 a4 =
 (Ziy a0 a2).bind fun x1 =>
  Zbt a0 a1 a2 a3 a4 x1 0 :=
 (mk_f _ _ _ _ _ _ _ 4000).trans (by kernel_rfl)
theorem Znq  (v0 : List T_Role.ty) (v1 : List Zaa.ty) (v2 : Int) (v3 : List UInt8) (v4 : Int) (v11 : List Bool) (v12 : Int) : Zbt v0 v1 v2 v3 v4 v11 v12 =
 if decide (v12 < (v1.length : Int)) then
  if decide (0 ≤ v12) then
   (v1[v12.toNat]?).bind fun x1 =>
    (Zcp v0 x1.1).bind fun x2 =>
     if (x2 == v2) then
      if decide (0 ≤ v12) then
       (v1[v12.toNat]?).bind fun x3 =>
        if (x3.2.1 == v3) then
         if decide (0 ≤ v12) then
          (v1[v12.toNat]?).bind fun x4 =>
           if decide (x4.2.2.1 ≥ v4) then
            some true
           else
            Zbt v0 v1 v2 v3 v4 v11 (IntKind.i64.wrap (v12 + 1))
         else
          none
        else
         Zbt v0 v1 v2 v3 v4 v11 (IntKind.i64.wrap (v12 + 1))
      else
       none
     else
      if decide (0 ≤ x2) then
       (v11[x2.toNat]?).bind fun x5 =>
        if x5 then
         if decide (0 ≤ v12) then
          (v1[v12.toNat]?).bind fun x6 =>
           if (x6.2.1 == v3) then
            if decide (0 ≤ v12) then
             (v1[v12.toNat]?).bind fun x7 =>
              if decide (x7.2.2.1 ≥ v4) then
               some true
              else
               Zbt v0 v1 v2 v3 v4 v11 (IntKind.i64.wrap (v12 + 1))
            else
             none
           else
            Zbt v0 v1 v2 v3 v4 v11 (IntKind.i64.wrap (v12 + 1))
         else
          none
        else
         Zbt v0 v1 v2 v3 v4 v11 (IntKind.i64.wrap (v12 + 1))
      else
       none
  else
   none
 else
  some false :=
 (goL_dn _ _ _ 4000 _ _).trans (by kernel_rfl)
def Zle : C :=
 .seq (.reg false [.V 26 (.mv (.t 0)),.V 27 (.mv (.t 1)),.V 28 (.mv (.t 0)),.V 29 (.mv (.t 2)),.V 30 (.call (.c (.fn 740 [])) [.t 28,.t 29]),.V 31 (.mv (.t 3)),.V 32 (.mv (.t 4)),.V 33 (.call (.c (.fn 741 [])) [.t 26,.t 27,.t 30,.t 31,.t 32]),.V 10 (.asg (.t 33))] [10] []) .ret
def Zk4 : Fn := { np := 5,io := [],res := [.t 10],own := [false],body :=
 (.seq (.reg false [.V 10 (.asg (.c (.bool false)))] [0,1,2,3,4] []) (.seq (.seq (.reg false [.V 11 (.mv (.t 0)),.V 12 (.mv (.t 1)),.V 13 (.call (.c (.fn 739 [])) [.t 11,.t 12]),.V 14 (.un .not (.t 13)),.V 15 (.mv (.t 14)),.G 16 (.mv (.t 0)) 4 false,.G 17 (.mv (.t 2)) 4 false,.G 18 (.call (.c (.fn 740 [])) [.t 16,.t 17]) 4 false,.G 19 (.bin .lss (.t 18) (.c (.int .i64 0))) 4 false,.V 20 (.pick (.t 15) (.c (.bool true)) (.t 19)),.V 21 (.mv (.t 20)),.G 22 (.mv (.t 4)) 10 false,.G 23 (.call (.c (.fn 742 [])) [.t 22]) 10 false,.G 24 (.un .not (.t 23)) 10 false,.V 25 (.pick (.t 21) (.c (.bool true)) (.t 24))] [0,1,2,3,4,25] []) (.cond (.t 25) (.seq (.reg false [.V 10 (.asg (.c (.bool false)))] [10] []) .ret) .skip)) (.norm [0,1,2,3,4] [] Zle))) }
noncomputable def Zg3 : List (Nat × Callee) := [(739,Zfl),(740,Zdr),(741,Znk),(742,Zgk)]
def Zmq : List (Nat × ET) := [(11,T_Role),(12,Zaa),(16,T_Role),(26,T_Role),(27,Zaa),(28,T_Role)]
noncomputable def Zhh : Callee := Zad Zg3 Zmq Zk4 [.d (.one (.sl T_Role)),.d (.one (.sl Zaa)),.d (.one .str),.d (.one .str),.d (.one (.int .i64))] [.d (.one .bool)] []
noncomputable def Zay (a0 : List T_Role.ty) (a1 : List Zaa.ty) (a2 : List UInt8) (a3 : List UInt8) (a4 : Int) : Option (Bool) := Zhh.f (a0,a1,a2,a3,a4,())
noncomputable def Zk3  (v0 : List T_Role.ty) (v1 : List Zaa.ty) (v2 : List UInt8) (v3 : List UInt8) (v4 : Int) : Option (Bool) :=
 goL Zg3 Zmq (vleave Zk4 [.d (.one (.sl T_Role)),.d (.one (.sl Zaa)),.d (.one .str),.d (.one .str),.d (.one (.int .i64))] [.d (.one .bool)] [] []) [.c Zle]
  ⟨[(0,.sl T_Role v0),(1,.sl Zaa v1),(2,.str v2),(3,.str v3),(4,.int .i64 v4)],[]⟩
theorem Zt2 (a0 : List T_Role.ty) (a1 : List Zaa.ty) (a2 : List UInt8) (a3 : List UInt8) (a4 : Int) : Zay a0 a1 a2 a3 a4 =
 (Zh1 a0 a1).bind fun x1 =>
  if (!x1) then
   some false
  else
   (Zcp a0 a2).bind fun x2 =>
    if decide (x2 < 0) then
     some false
    else
     (Zl2 a4).bind fun x3 =>
      if (!x3) then
       some false
      else
       Zk3 a0 a1 a2 a3 a4 :=
 (mk_f _ _ _ _ _ _ _ 4000).trans (by kernel_rfl)
theorem Zrc  (v0 : List T_Role.ty) (v1 : List Zaa.ty) (v2 : List UInt8) (v3 : List UInt8) (v4 : Int) : Zk3 v0 v1 v2 v3 v4 =
 (Zcp v0 v2).bind fun x1 =>
  (Zre v0 v1 x1 v3 v4).bind fun x2 =>
   some x2 :=
 (goL_dn _ _ _ 4000 _ _).trans (by kernel_rfl)
noncomputable def Zev : Callee := cmpC Zbl Zac
noncomputable def Zid (a0 : T_Role.ty) (a1 : List T_Role.ty) (a2 : List Zaa.ty) (a3 : List Zaa.ty) : Option (Bool) := Zev.f (a0,a1,a2,a3,())
theorem Zsw (a0 : T_Role.ty) (a1 : List T_Role.ty) (a2 : List Zaa.ty) (a3 : List Zaa.ty) : Zid a0 a1 a2 a3 = cmpF Zbl Zac a0 a1 a2 a3 := rfl
def Za8 : C :=
 .seq (.reg false [.V 9 (.bin .lss (.t 8) (.t 7))] [0,1,7,8,9] []) (.seq (.cond (.t 9) .skip (.exit 0)) (.seq (.block 1 (.seq (.reg false [.V 10 (.mv (.t 8)),.V 5 (.asg (.t 10))] [0,1,5,7,8] []) (.seq (.reg false [.V 11 (.mv (.t 1)),.V 12 (.mv (.t 0)),.V 13 (.mv (.t 5)),.V 14 (.ia 2 (.t 12) (.t 13)),.V 15 (.ld (some 2) (.t 14)),.V 16 (.call (.t 11) [.t 15])] [0,1,5,7,8,16] []) (.cond (.t 16) (.seq (.reg false [.V 17 (.mv (.t 5)),.V 4 (.asg (.t 17))] [4] []) .ret) .skip)))) (.reg false [.V 18 (.bin .add (.t 8) (.c (.int .i64 1))),.V 8 (.mv (.t 18))] [0,1,7,8] [])))
def Zbd : C :=
 .norm [0,1,7,8] [] Za8
def Zbb : C :=
 .seq (.reg false [.V 4 (.asg (.c (.int .i64 (-1))))] [4] []) .ret
def Za9 : Fn := { np := 2,io := [],res := [.t 4],own := [false],body :=
 (.seq (.reg false [.V 4 (.asg (.c (.int .i64 0)))] [0,1] []) (.seq (.seq (.reg false [.V 6 (.mv (.t 0)),.V 7 (.len (.t 6)),.V 8 (.mv (.c (.int .i64 0)))] [0,1,7,8] []) (.block 0 (.loop Zbd))) Zbb)) }
noncomputable def Zau : List (Nat × Callee) := [(956,Zev)]
def Zbh : List (Nat × ET) := [(6,T_Role),(12,T_Role)]
noncomputable def Zav : Callee := Zad Zau Zbh Za9 [.d (.one (.sl T_Role)),.fn 956 [(.one (.sl T_Role)),(.one (.sl Zaa)),(.one (.sl Zaa))]] [.d (.one (.int .i64))] []
noncomputable def Zal (a0 : List T_Role.ty) (a1 : (List T_Role.ty) × (List Zaa.ty) × (List Zaa.ty) × Unit) : Option (Int) := Zav.f (a0,a1,())
noncomputable def Zaj  (v0 : List T_Role.ty) (v1_0_0 : List T_Role.ty) (v1_1_0 : List Zaa.ty) (v1_2_0 : List Zaa.ty) (v7 : Int) (v8 : Int) : Option (Int) :=
 goL Zau Zbh (vleave Za9 [.d (.one (.sl T_Role)),.fn 956 [(.one (.sl T_Role)),(.one (.sl Zaa)),(.one (.sl Zaa))]] [.d (.one (.int .i64))] [] []) [.c Za8,.l Zbd,.e 0,.c Zbb]
  ⟨[(0,.sl T_Role v0),(1,.fn 956 [.ptr [.sl T_Role v1_0_0] 0,.ptr [.sl Zaa v1_1_0] 0,.ptr [.sl Zaa v1_2_0] 0]),(7,.int .i64 v7),(8,.int .i64 v8)],[]⟩
theorem Zc5 (a0 : List T_Role.ty) (a1 : (List T_Role.ty) × (List Zaa.ty) × (List Zaa.ty) × Unit) : Zal a0 a1 =
 Zaj a0 a1.1 a1.2.1 a1.2.2.1 (a0.length : Int) 0 :=
 (mk_f _ _ _ _ _ _ _ 4000).trans (by kernel_rfl)
theorem Za6  (v0 : List T_Role.ty) (v1_0_0 : List T_Role.ty) (v1_1_0 : List Zaa.ty) (v1_2_0 : List Zaa.ty) (v7 : Int) (v8 : Int) : Zaj v0 v1_0_0 v1_1_0 v1_2_0 v7 v8 =
 if decide (v8 < v7) then
  if decide (0 ≤ v8) then
   (v0[v8.toNat]?).bind fun x1 =>
    (Zid x1 v1_0_0 v1_1_0 v1_2_0).bind fun x2 =>
     if x2 then
      some v8
     else
      Zaj v0 v1_0_0 v1_1_0 v1_2_0 v7 (IntKind.i64.wrap (v8 + 1))
  else
   none
 else
  some (-1) :=
 (goL_dn _ _ _ 4000 _ _).trans (by kernel_rfl)
def Zcw : Fn := { np := 2,io := [],res := [.t 4],own := [false],body :=
 (.seq (.reg false [.V 4 (.asg (.c (.bool false)))] [0,1] []) (.seq (.reg false [.V 5 (.mv (.t 0)),.V 6 (.mv (.t 1)),.V 7 (.call (.c (.fn 1300 [])) [.t 5,.t 6]),.V 8 (.bin .geq (.t 7) (.c (.int .i64 0))),.V 4 (.asg (.t 8))] [4] []) .ret)) }
noncomputable def Za7 : List (Nat × Callee) := [(956,Zev),(1300,Zav)]
def Zcz : List (Nat × ET) := [(5,T_Role)]
noncomputable def Zao : Callee := Zad Za7 Zcz Zcw [.d (.one (.sl T_Role)),.fn 956 [(.one (.sl T_Role)),(.one (.sl Zaa)),(.one (.sl Zaa))]] [.d (.one .bool)] []
noncomputable def Zba (a0 : List T_Role.ty) (a1 : (List T_Role.ty) × (List Zaa.ty) × (List Zaa.ty) × Unit) : Option (Bool) := Zao.f (a0,a1,())
theorem Zcv (a0 : List T_Role.ty) (a1 : (List T_Role.ty) × (List Zaa.ty) × (List Zaa.ty) × Unit) : Zba a0 a1 =
 (Zal a0 (a1.1,a1.2.1,a1.2.2.1,())).bind fun x1 =>
  some (decide (x1 ≥ 0)) :=
 (mk_f _ _ _ _ _ _ _ 4000).trans (by kernel_rfl)
def Zvb : Fn := { np := 3,io := [],res := [.t 6],own := [false],body :=
 (.seq (.reg false [.W 3 (.box 1 (.t 0)),.W 4 (.box 1 (.t 1)),.W 5 (.box 1 (.t 2)),.V 6 (.asg (.c (.bool false)))] [3,4,5] [3,4,5,4000,5000,6000]) (.seq (.reg false [.V 7 (.ld none (.t 3)),.V 8 (.mkf 956 [.t 3,.t 4,.t 5]),.V 9 (.call (.c (.fn 1301 [])) [.t 7,.t 8]),.V 10 (.un .not (.t 9)),.V 6 (.asg (.t 10))] [6] []) .ret)) }
noncomputable def Zn3 : List (Nat × Callee) := [(1301,Zao)]
def Zwj : List (Nat × ET) := [(7,T_Role)]
noncomputable def Zh7 : Callee := Zad Zn3 Zwj Zvb [.d (.one (.sl T_Role)),.d (.one (.sl Zaa)),.d (.one (.sl Zaa))] [.d (.one .bool)] []
noncomputable def Zju (a0 : List T_Role.ty) (a1 : List Zaa.ty) (a2 : List Zaa.ty) : Option (Bool) := Zh7.f (a0,a1,a2,())
theorem Zva (a0 : List T_Role.ty) (a1 : List Zaa.ty) (a2 : List Zaa.ty) : Zju a0 a1 a2 =
 (Zba a0 (a0,a1,a2,())).bind fun x1 =>
  some (!x1) :=
 (mk_f _ _ _ _ _ _ _ 4000).trans (by kernel_rfl)
def Zit : C :=
 .seq (.reg false [.V 16 (.bin .lss (.t 15) (.t 14))] [0,1,6,14,15,16] [6]) (.seq (.cond (.t 16) .skip (.exit 0)) (.seq (.block 1 (.seq (.reg false [.V 17 (.mv (.t 15)),.V 7 (.asg (.t 17))] [0,1,6,7,14,15] [6]) (.seq (.reg false [.V 18 (.mv (.t 0)),.V 19 (.mv (.t 1)),.V 20 (.mv (.t 1)),.V 21 (.call (.c (.fn 731 [])) [.t 20]),.V 22 (.mv (.t 7)),.V 23 (.mv (.t 7)),.V 24 (.bin .add (.t 23) (.c (.int .i64 1))),.W 25 (.call (.c (.fn 737 [])) [.t 21,.t 22,.t 24]),.V 26 (.call (.c (.fn 743 [])) [.t 18,.t 19,.t 25])] [0,1,6,7,14,15,26] [6]) (.cond (.t 26) (.reg false [.V 27 (.mv (.t 6)),.V 28 (.mv (.t 7)),.V 29 (.bsl 1 (.int .i64 0) 1 [(0,.t 28)]),.W 30 (.app 1 8 (.t 27) (.t 29)),.W 6 (.asg (.t 30))] [0,1,6,14,15] [6]) .skip)))) (.reg false [.V 31 (.bin .add (.t 15) (.c (.int .i64 1))),.V 15 (.mv (.t 31))] [0,1,6,14,15] [6])))
def Zim : C :=
 .norm [0,1,6,14,15] [6] Zit
def Zin : C :=
 .seq (.reg false [.V 32 (.mv (.t 6)),.W 4 (.asg (.t 32)),.V 5 (.asg (.c (.int .i64 0)))] [4,5] [4,6]) .ret
def Zil : Fn := { np := 2,io := [],res := [.t 4,.t 5],own := [true,false],body :=
 (.seq (.reg false [.W 4 (.asg (.c (.nils 1))),.V 5 (.asg (.c (.int .i64 0)))] [0,1] []) (.seq (.seq (.reg false [.V 8 (.mv (.t 0)),.V 9 (.mv (.t 1)),.V 10 (.call (.c (.fn 736 [])) [.t 8,.t 9]),.V 11 (.un .not (.t 10))] [0,1,11] []) (.cond (.t 11) (.seq (.reg false [.W 4 (.asg (.c (.nils 1))),.V 5 (.asg (.c (.int .i64 1)))] [4,5] [4,6]) .ret) .skip)) (.seq (.reg false [.V 12 (.bsl 1 (.int .i64 0) 0 []),.W 6 (.asg (.t 12))] [0,1,6] [6]) (.seq (.seq (.reg false [.V 13 (.mv (.t 1)),.V 14 (.len (.t 13)),.V 15 (.mv (.c (.int .i64 0)))] [0,1,6,14,15] [6]) (.block 0 (.loop Zim))) Zin)))) }
noncomputable def Zfm : List (Nat × Callee) := [(731,Zce),(736,Zcy),(737,Za2),(743,Zh7)]
def Zjn : List (Nat × ET) := [(4,(.one (.int .i64))),(6,(.one (.int .i64))),(8,T_Role),(9,Zaa),(12,(.one (.int .i64))),(13,Zaa),(18,T_Role),(19,Zaa),(20,Zaa),(21,Zaa),(25,Zaa),(27,(.one (.int .i64))),(29,(.one (.int .i64))),(30,(.one (.int .i64))),(32,(.one (.int .i64)))]
noncomputable def Zfp : Callee := Zad Zfm Zjn Zil [.d (.one (.sl T_Role)),.d (.one (.sl Zaa))] [.tok (.one (.int .i64)),.d (.one (.int .i64))] []
noncomputable def Zgr (a0 : List T_Role.ty) (a1 : List Zaa.ty) : Option (List Int × Int) := Zfp.f (a0,a1,())
noncomputable def Zct  (v0 : List T_Role.ty) (v1 : List Zaa.ty) (v14 : Int) (v15 : Int) (r6 : List Int) : Option (List Int × Int) :=
 goL Zfm Zjn (vleave Zil [.d (.one (.sl T_Role)),.d (.one (.sl Zaa))] [.tok (.one (.int .i64)),.d (.one (.int .i64))] [] []) [.c Zit,.l Zim,.e 0,.c Zin]
  ⟨[(0,.sl T_Role v0),(1,.sl Zaa v1),(6,.view 6 0 r6.length),(14,.int .i64 v14),(15,.int .i64 v15)],[(6,some (.sl (.one (.int .i64)) r6))]⟩
theorem Zrj (a0 : List T_Role.ty) (a1 : List Zaa.ty) : Zgr a0 a1 =
 (Zdq a0 a1).bind fun x1 =>
  if (!x1) then
   some ([],1)
  else
   Zct a0 a1 (a1.length : Int) 0 [] :=
 (mk_f _ _ _ _ _ _ _ 4000).trans (by kernel_rfl)
theorem Zgu  (v0 : List T_Role.ty) (v1 : List Zaa.ty) (v14 : Int) (v15 : Int) (r6 : List Int) : Zct v0 v1 v14 v15 r6 =
 if decide (v15 < v14) then
  (Zcq v1).bind fun x1 =>
   if decide (x1.length = x1.length) then
    (Za5 x1 v15 (IntKind.i64.wrap (v15 + 1))).bind fun x2 =>
     (Zju v0 v1 x2.1).bind fun x3 =>
      if x3 then
       if decide (r6.length + 1 < lim) then
        Zct v0 v1 v14 (IntKind.i64.wrap (v15 + 1)) ((r6.take r6.length) ++ [v15])
       else
        none
      else
       Zct v0 v1 v14 (IntKind.i64.wrap (v15 + 1)) r6
   else
    none
 else
  some ((r6.take r6.length),0) :=
 (goL_dn _ _ _ 4000 _ _).trans (by kernel_rfl)
def Zow : C :=
 .seq (.seq (.reg false [.V 6 (.mv (.t 5)),.V 7 (.mv (.t 0)),.V 8 (.len (.t 7)),.V 9 (.bin .lss (.t 6) (.t 8))] [0,1,5,9] []) (.cond (.t 9) .skip (.exit 0))) (.seq (.block 1 (.seq (.reg true [.V 12 (.mv (.t 0)),.V 13 (.mv (.t 5)),.V 14 (.ia 1 (.t 12) (.t 13)),.V 15 (.ld none (.t 14)),.V 16 (.bin .lss (.t 15) (.c (.int .i64 0))),.V 17 (.mv (.t 16)),.G 18 (.mv (.t 0)) 5 false,.G 19 (.mv (.t 5)) 5 false,.G 20 (.ia 1 (.t 18) (.t 19)) 5 false,.G 21 (.ld none (.t 20)) 5 false,.G 22 (.mv (.t 1)) 5 false,.G 23 (.bin .geq (.t 21) (.t 22)) 5 false,.V 24 (.pick (.t 17) (.c (.bool true)) (.t 23)),.V 25 (.mv (.t 24)),.G 26 (.mv (.t 5)) 13 false,.G 27 (.bin .gtr (.t 26) (.c (.int .i64 0))) 13 false,.G 28 (.mv (.t 27)) 13 false,.G 29 (.mv (.t 0)) 16 true,.G 30 (.mv (.t 5)) 16 true,.G 31 (.bin .sub (.t 30) (.c (.int .i64 1))) 16 true,.G 32 (.ia 1 (.t 29) (.t 31)) 16 true,.G 33 (.ld none (.t 32)) 16 true,.G 34 (.mv (.t 0)) 16 true,.G 35 (.mv (.t 5)) 16 true,.G 36 (.ia 1 (.t 34) (.t 35)) 16 true,.G 37 (.ld none (.t 36)) 16 true,.G 38 (.bin .geq (.t 33) (.t 37)) 16 true,.G 39 (.pick (.t 28) (.t 38) (.c (.bool false))) 13 false,.V 40 (.pick (.t 25) (.c (.bool true)) (.t 39))] [0,1,5,40] []) (.cond (.t 40) (.seq (.reg false [.V 4 (.asg (.c (.bool false)))] [4] []) .ret) .skip))) (.reg false [.V 10 (.mv (.t 5)),.V 11 (.bin .add (.t 10) (.c (.int .i64 1))),.V 5 (.asg (.t 11))] [0,1,5] []))
def Zo3 : C :=
 .norm [0,1,5] [] Zow
def Zou : C :=
 .seq (.reg false [.V 4 (.asg (.c (.bool true)))] [4] []) .ret
def Zpc : Fn := { np := 2,io := [],res := [.t 4],own := [false],body :=
 (.seq (.reg false [.V 4 (.asg (.c (.bool false)))] [0,1] []) (.seq (.seq (.reg false [.V 5 (.asg (.c (.int .i64 0)))] [0,1,5] []) (.block 0 (.loop Zo3))) Zou)) }
noncomputable def Zkp : List (Nat × Callee) := []
def Zqg : List (Nat × ET) := [(7,(.one (.int .i64))),(12,(.one (.int .i64))),(18,(.one (.int .i64))),(29,(.one (.int .i64))),(34,(.one (.int .i64)))]
noncomputable def Zki : Callee := Zad Zkp Zqg Zpc [.d (.one (.sl (.one (.int .i64)))),.d (.one (.int .i64))] [.d (.one .bool)] []
noncomputable def Zni (a0 : List Int) (a1 : Int) : Option (Bool) := Zki.f (a0,a1,())
noncomputable def Zeg  (v0 : List Int) (v1 : Int) (v5 : Int) : Option (Bool) :=
 goL Zkp Zqg (vleave Zpc [.d (.one (.sl (.one (.int .i64)))),.d (.one (.int .i64))] [.d (.one .bool)] [] []) [.c Zow,.l Zo3,.e 0,.c Zou]
  ⟨[(0,.sl (.one (.int .i64)) v0),(1,.int .i64 v1),(5,.int .i64 v5)],[]⟩
theorem Zxp (a0 : List Int) (a1 : Int) : Zni a0 a1 =
 Zeg a0 a1 0 :=
 (mk_f _ _ _ _ _ _ _ 4000).trans (by kernel_rfl)
theorem Zld  (v0 : List Int) (v1 : Int) (v5 : Int) : Zeg v0 v1 v5 =
 if decide (v5 < (v0.length : Int)) then
  if decide (0 ≤ v5) then
   (v0[v5.toNat]?).bind fun x1 =>
    if decide (x1 < 0) then
     some false
    else
     if decide (0 ≤ v5) then
      (v0[v5.toNat]?).bind fun x2 =>
       if decide (x2 ≥ v1) then
        some false
       else
        if decide (v5 > 0) then
         if decide (0 ≤ IntKind.i64.wrap (v5 - 1)) then
          (v0[(IntKind.i64.wrap (v5 - 1)).toNat]?).bind fun x3 =>
           if decide (0 ≤ v5) then
            (v0[v5.toNat]?).bind fun x4 =>
             if decide (x3 ≥ x4) then
              some false
             else
              Zeg v0 v1 (IntKind.i64.wrap (v5 + 1))
           else
            none
         else
          none
        else
         Zeg v0 v1 (IntKind.i64.wrap (v5 + 1))
     else
      none
  else
   none
 else
  some true :=
 (goL_dn _ _ _ 4000 _ _).trans (by kernel_rfl)
def Zvx : Fn := { np := 2,io := [],res := [.t 4],own := [true],body :=
 (.seq (.reg false [.W 4 (.asg (.c (.nils 3)))] [0,1] []) (.seq (.reg false [.V 6 (.bsl 3 (.agg [.str [],.str [],.int .i64 0]) 0 []),.V 7 (.mv (.t 0)),.V 8 (.mv (.t 1)),.V 9 (.slc 3 (.t 7) none (some (.t 8))),.W 10 (.app 3 40 (.t 6) (.t 9)),.W 5 (.asg (.t 10))] [0,1,5] [5]) (.seq (.reg false [.V 11 (.mv (.t 5)),.V 12 (.mv (.t 0)),.V 13 (.mv (.t 1)),.V 14 (.bin .add (.t 13) (.c (.int .i64 1))),.V 15 (.slc 3 (.t 12) (some (.t 14)) none),.W 16 (.app 3 40 (.t 11) (.t 15)),.W 4 (.asg (.t 16))] [4] [4]) .ret))) }
noncomputable def Zn1 : List (Nat × Callee) := []
def Zv8 : List (Nat × ET) := [(4,Zaa),(5,Zaa),(6,Zaa),(7,Zaa),(9,Zaa),(10,Zaa),(11,Zaa),(12,Zaa),(15,Zaa),(16,Zaa)]
noncomputable def Zib : Callee := Zad Zn1 Zv8 Zvx [.d (.one (.sl Zaa)),.d (.one (.int .i64))] [.tok Zaa] []
noncomputable def Zjx (a0 : List Zaa.ty) (a1 : Int) : Option (List Zaa.ty) := Zib.f (a0,a1,())
theorem Zvu (a0 : List Zaa.ty) (a1 : Int) : Zjx a0 a1 =
 if decide (0 ≤ a1) && decide (a1 ≤ (a0.length : Int)) then
  if decide (0 + (a0.take a1.toNat).length < lim) then
   if decide (0 ≤ IntKind.i64.wrap (a1 + 1)) && decide (IntKind.i64.wrap (a1 + 1) ≤ (a0.length : Int)) then
    if decide (([] ++ (a0.take a1.toNat)).length + (a0.drop ((IntKind.i64.wrap (a1 + 1)).toNat)).length < lim) then
     some (((([] ++ (a0.take a1.toNat)).take (([] ++ (a0.take a1.toNat)).length)) ++ (a0.drop ((IntKind.i64.wrap (a1 + 1)).toNat))).take (((([] ++ (a0.take a1.toNat)).take (([] ++ (a0.take a1.toNat)).length)) ++ (a0.drop ((IntKind.i64.wrap (a1 + 1)).toNat))).length))
    else
     none
   else
    none
  else
   none
 else
  none :=
 (mk_f _ _ _ _ _ _ _ 4000).trans (by kernel_rfl)
def Zlf : C :=
 .seq (.seq (.reg false [.V 13 (.mv (.t 8)),.V 14 (.mv (.t 1)),.V 15 (.len (.t 14)),.V 16 (.bin .lss (.t 13) (.t 15))] [1,5,8,16] [5]) (.cond (.t 16) .skip (.exit 0))) (.seq (.block 1 (.seq (.reg true [.V 19 (.mv (.t 1)),.V 20 (.mv (.t 8)),.V 21 (.ia 3 (.t 19) (.t 20)),.V 22 (.ld (some 3) (.t 21)),.V 23 (.ld (some 3) (.t 5)),.V 24 (.eqs false [.s,.s,.i] (.t 22) (.t 23))] [1,5,8,24] [5]) (.cond (.t 24) (.seq (.reg false [.V 25 (.mv (.t 1)),.V 26 (.mv (.t 8)),.V 27 (.call (.c (.fn 744 [])) [.t 25,.t 26]),.W 6 (.asg (.t 27)),.V 7 (.asg (.c (.int .i64 0)))] [6,7] [6]) .ret) .skip))) (.reg false [.V 17 (.mv (.t 8)),.V 18 (.bin .add (.t 17) (.c (.int .i64 1))),.V 8 (.asg (.t 18))] [1,5,8] [5]))
def Zkz : C :=
 .norm [1,5,8] [5] Zlf
def Zk5 : C :=
 .seq (.reg false [.W 6 (.asg (.c (.nils 3))),.V 7 (.asg (.c (.int .i64 3)))] [6,7] [6]) .ret
def Zk7 : Fn := { np := 3,io := [],res := [.t 6,.t 7],own := [true,false],body :=
 (.seq (.reg false [.W 5 (.box 3 (.t 2)),.W 6 (.asg (.c (.nils 3))),.V 7 (.asg (.c (.int .i64 0)))] [0,1,5] [5]) (.seq (.seq (.reg false [.V 9 (.mv (.t 0)),.V 10 (.mv (.t 1)),.V 11 (.call (.c (.fn 739 [])) [.t 9,.t 10]),.V 12 (.un .not (.t 11))] [1,5,12] [5]) (.cond (.t 12) (.seq (.reg false [.W 6 (.asg (.c (.nils 3))),.V 7 (.asg (.c (.int .i64 1)))] [6,7] [6]) .ret) .skip)) (.seq (.seq (.reg false [.V 8 (.asg (.c (.int .i64 0)))] [1,5,8] [5]) (.block 0 (.loop Zkz))) Zk5))) }
noncomputable def Zhb : List (Nat × Callee) := [(739,Zfl),(744,Zib)]
def Zmi : List (Nat × ET) := [(6,Zaa),(9,T_Role),(10,Zaa),(14,Zaa),(19,Zaa),(25,Zaa),(27,Zaa)]
noncomputable def Zg5 : Callee := Zad Zhb Zmi Zk7 [.d (.one (.sl T_Role)),.d (.one (.sl Zaa)),.d Zaa] [.tok Zaa,.d (.one (.int .i64))] []
noncomputable def Zjh (a0 : List T_Role.ty) (a1 : List Zaa.ty) (a2 : Zaa.ty) : Option (List Zaa.ty × Int) := Zg5.f (a0,a1,a2,())
noncomputable def Zep  (v1 : List Zaa.ty) (v8 : Int) (r5_0 : List UInt8) (r5_1 : List UInt8) (r5_2 : Int) : Option (List Zaa.ty × Int) :=
 goL Zhb Zmi (vleave Zk7 [.d (.one (.sl T_Role)),.d (.one (.sl Zaa)),.d Zaa] [.tok Zaa,.d (.one (.int .i64))] [] []) [.c Zlf,.l Zkz,.e 0,.c Zk5]
  ⟨[(1,.sl Zaa v1),(5,.loc 5 0 0),(8,.int .i64 v8)],[(5,some (.var 3 (.agg [.str r5_0,.str r5_1,.int .i64 r5_2])))]⟩
theorem Zuh (a0 : List T_Role.ty) (a1 : List Zaa.ty) (a2 : Zaa.ty) : Zjh a0 a1 a2 =
 (Zh1 a0 a1).bind fun x1 =>
  if (!x1) then
   some ([],1)
  else
   Zep a1 0 a2.1 a2.2.1 a2.2.2.1 :=
 (mk_f _ _ _ _ _ _ _ 4000).trans (by kernel_rfl)
theorem Ziq  (v1 : List Zaa.ty) (v8 : Int) (r5_0 : List UInt8) (r5_1 : List UInt8) (r5_2 : Int) : Zep v1 v8 r5_0 r5_1 r5_2 =
 if decide (v8 < (v1.length : Int)) then
  if decide (0 ≤ v8) then
   (v1[v8.toNat]?).bind fun x1 =>
    if ((x1.1 == r5_0) && ((x1.2.1 == r5_1) && (x1.2.2.1 == r5_2))) then
     (Zjx v1 v8).bind fun x2 =>
      some ((x2.take x2.length),0)
    else
     Zep v1 (IntKind.i64.wrap (v8 + 1)) r5_0 r5_1 r5_2
  else
   none
 else
  some ([],3) :=
 (goL_dn _ _ _ 4000 _ _).trans (by kernel_rfl)
def Zp2 : Fn := { np := 1,io := [],res := [.t 2,.t 3,.cell 4 (some 3),.cell 5 (some 3)],own := [false,true,false,false],body :=
 (.seq (.reg false [.W 2 (.asg (.c (.nils 2))),.W 3 (.asg (.c (.nils 3))),.W 4 (.alloc 3 (.agg [.str [],.str [],.int .i64 0])),.W 5 (.alloc 3 (.agg [.str [],.str [],.int .i64 0]))] [0,4,5] [4,5]) (.seq (.reg false [.V 10 (.mv (.t 0)),.W 11 (.call (.c (.fn 441 [])) [.t 10]),.V 6 (.asg (.t 11))] [4,5,6] [4,5,11,12000]) (.seq (.reg false [.V 13 (.mv (.t 6)),.W 14 (.call (.c (.fn 730 [])) [.t 13]),.V 12 (.mv (.t 14)),.V 15 (.ext (.t 12) 0),.V 16 (.ext (.t 12) 1),.W 7 (.asg (.t 15)),.W 8 (.asg (.t 16))] [4,5,6,7,8] [4,5,7,8,11,12000]) (.seq (.reg false [.V 17 (.mv (.t 6)),.V 18 (.mv (.t 7)),.W 19 (.call (.c (.fn 729 [])) [.t 17,.t 18]),.W 9 (.alloc 3 (.agg [.str [],.str [],.int .i64 0])),⟨none,true,.sto 3 (.t 9) (.t 19),none,false,[]⟩] [4,5,6,7,8,9] [4,5,7,8,9,11,12000]) (.seq (.reg true [.V 20 (.mv (.t 7)),.V 21 (.mv (.t 8)),⟨some 22,false,.ld (some 3) (.t 9),none,true,[]⟩,.V 23 (.mv (.t 6)),.V 24 (.mv (.t 7)),⟨some 25,true,.call (.c (.fn 729 [])) [.t 23,.t 24],none,false,[7,8,9]⟩,⟨some 2,true,.asg (.t 20),none,true,[]⟩,⟨some 3,true,.asg (.t 21),none,false,[9]⟩,⟨none,true,.sto 3 (.t 4) (.t 22),none,false,[]⟩,⟨none,true,.sto 3 (.t 5) (.t 25),none,false,[]⟩] [2,3,4,5] [2,3,4,5,7,8]) .ret))))) }
noncomputable def Zis : List (Nat × Callee) := [(441,Zhx),(729,Zd2),(730,Zhz)]
def Zrl : List (Nat × ET) := [(2,T_Role),(3,Zaa),(7,T_Role),(8,Zaa),(10,(.one (.int .u8))),(15,T_Role),(16,Zaa),(18,T_Role),(20,T_Role),(21,Zaa),(24,T_Role)]
noncomputable def Zfh : Callee := Zad Zis Zrl Zp2 [.d (.one (.sl (.one (.int .u8))))] [.d (.one (.sl T_Role)),.tok Zaa,.d Zaa,.d Zaa] []
noncomputable def Zgh (a0 : List Int) : Option (List T_Role.ty × List Zaa.ty × Zaa.ty × Zaa.ty) := Zfh.f (a0,())
theorem Zp4 (a0 : List Int) : Zgh a0 =
 (Zkj a0).bind fun x1 =>
  (Zko x1).bind fun x2 =>
   (Zc4 (x2.2.2.1,x2.2.2.2.1,x2.2.2.2.2.1,()) x2.1).bind fun x3 =>
    (Zc4 (x3.2.1,x3.2.2.1,x3.2.2.2.1,()) x2.1).bind fun x4 =>
     some (x2.1,(x2.2.1.take x2.2.1.length),(x3.1.1,x3.1.2.1,x3.1.2.2.1,()),(x4.1.1,x4.1.2.1,x4.1.2.2.1,())) :=
 (mk_f _ _ _ _ _ _ _ 4000).trans (by kernel_rfl)
noncomputable def Zja : Callee := rwC Zbl Zac
noncomputable def Zh3 (a0 : List T_Role.ty) (a1 : List Zaa.ty) (a2 : List Zp5.ty) : Option (List (List UInt8)) := Zja.f (a0,a1,a2,())
theorem Zwd (a0 : List T_Role.ty) (a1 : List Zaa.ty) (a2 : List Zp5.ty) : Zh3 a0 a1 a2 = rwF Zbl Zac a0 a1 a2 := rfl
def Zt4 : Fn := { np := 4,io := [],res := [.t 8,.t 9],own := [false,false],body :=
 (.seq (.reg false [.W 6 (.box 3 (.t 2)),.W 7 (.box 3 (.t 3)),.W 8 (.asg (.c (.nils 1))),.V 9 (.asg (.c (.int .i64 0)))] [0,1,6,7] [6,7]) (.seq (.seq (.reg false [.V 10 (.mv (.t 0)),.V 11 (.mv (.t 1)),.V 12 (.call (.c (.fn 736 [])) [.t 10,.t 11]),.V 13 (.un .not (.t 12))] [0,1,6,7,13] [6,7]) (.cond (.t 13) (.seq (.reg false [.W 8 (.asg (.c (.nils 1))),.V 9 (.asg (.c (.int .i64 1)))] [8,9] [8]) .ret) .skip)) (.seq (.reg false [.V 14 (.mv (.t 0)),.V 15 (.mv (.t 1)),.V 16 (.fa 1 (.t 6)),.V 17 (.ld none (.t 16)),.V 18 (.fa 2 (.t 6)),.V 19 (.ld none (.t 18)),.V 20 (.build [.str [],.int .i64 0] [(0,1,.t 17),(1,1,.t 19)]),.V 21 (.fa 1 (.t 7)),.V 22 (.ld none (.t 21)),.V 23 (.fa 2 (.t 7)),.V 24 (.ld none (.t 23)),.V 25 (.build [.str [],.int .i64 0] [(0,1,.t 22),(1,1,.t 24)]),.V 26 (.bsl 2 (.agg [.str [],.int .i64 0]) 2 [(0,.t 20),(1,.t 25)]),.W 27 (.call (.c (.fn 745 [])) [.t 14,.t 15,.t 26]),.W 8 (.asg (.t 27)),.V 9 (.asg (.c (.int .i64 0)))] [8,9] [8]) .ret))) }
noncomputable def Zmu : List (Nat × Callee) := [(736,Zcy),(745,Zja)]
def Zuy : List (Nat × ET) := [(8,(.one .str)),(10,T_Role),(11,Zaa),(14,T_Role),(15,Zaa),(26,Zp5),(27,(.one .str))]
noncomputable def Zhf : Callee := Zad Zmu Zuy Zt4 [.d (.one (.sl T_Role)),.d (.one (.sl Zaa)),.d Zaa,.d Zaa] [.d (.one (.sl (.one .str))),.d (.one (.int .i64))] []
noncomputable def Zf3 (a0 : List T_Role.ty) (a1 : List Zaa.ty) (a2 : Zaa.ty) (a3 : Zaa.ty) : Option (List (List UInt8) × Int) := Zhf.f (a0,a1,a2,a3,())
theorem Zt0 (a0 : List T_Role.ty) (a1 : List Zaa.ty) (a2 : Zaa.ty) (a3 : Zaa.ty) : Zf3 a0 a1 a2 a3 =
 (Zdq a0 a1).bind fun x1 =>
  if (!x1) then
   some ([],1)
  else
   (Zh3 a0 a1 [(a2.2.1,a2.2.2.1,()),(a3.2.1,a3.2.2.1,())]).bind fun x2 =>
    some (x2,0) :=
 (mk_f _ _ _ _ _ _ _ 4000).trans (by kernel_rfl)
def Zn4 : C :=
 .seq (.seq (.reg false [.V 6 (.mv (.t 5)),.V 7 (.mv (.t 0)),.V 8 (.len (.t 7)),.V 9 (.bin .lss (.t 6) (.t 8))] [0,1,5,9] []) (.cond (.t 9) .skip (.exit 0))) (.seq (.block 1 (.seq (.reg false [.V 12 (.mv (.t 0)),.V 13 (.mv (.t 5)),.V 14 (.ia 1 (.t 12) (.t 13)),.V 15 (.ld none (.t 14)),.V 16 (.mv (.t 1)),.V 17 (.bin .eql (.t 15) (.t 16))] [0,1,5,17] []) (.cond (.t 17) (.seq (.reg false [.V 4 (.asg (.c (.bool true)))] [4] []) .ret) .skip))) (.reg false [.V 10 (.mv (.t 5)),.V 11 (.bin .add (.t 10) (.c (.int .i64 1))),.V 5 (.asg (.t 11))] [0,1,5] []))
def Znn : C :=
 .norm [0,1,5] [] Zn4
def Zn2 : C :=
 .seq (.reg false [.V 4 (.asg (.c (.bool false)))] [4] []) .ret
def Zn0 : Fn := { np := 2,io := [],res := [.t 4],own := [false],body :=
 (.seq (.reg false [.V 4 (.asg (.c (.bool false)))] [0,1] []) (.seq (.seq (.reg false [.V 5 (.asg (.c (.int .i64 0)))] [0,1,5] []) (.block 0 (.loop Znn))) Zn2)) }
noncomputable def Zi6 : List (Nat × Callee) := []
def Zo0 : List (Nat × ET) := [(7,(.one .str)),(12,(.one .str))]
noncomputable def Zi4 : Callee := Zad Zi6 Zo0 Zn0 [.d (.one (.sl (.one .str))),.d (.one .str)] [.d (.one .bool)] []
noncomputable def Zlq (a0 : List (List UInt8)) (a1 : List UInt8) : Option (Bool) := Zi4.f (a0,a1,())
noncomputable def Zfk  (v0 : List (List UInt8)) (v1 : List UInt8) (v5 : Int) : Option (Bool) :=
 goL Zi6 Zo0 (vleave Zn0 [.d (.one (.sl (.one .str))),.d (.one .str)] [.d (.one .bool)] [] []) [.c Zn4,.l Znn,.e 0,.c Zn2]
  ⟨[(0,.sl (.one .str) v0),(1,.str v1),(5,.int .i64 v5)],[]⟩
theorem Zwh (a0 : List (List UInt8)) (a1 : List UInt8) : Zlq a0 a1 =
 Zfk a0 a1 0 :=
 (mk_f _ _ _ _ _ _ _ 4000).trans (by kernel_rfl)
theorem Zjw  (v0 : List (List UInt8)) (v1 : List UInt8) (v5 : Int) : Zfk v0 v1 v5 =
 if decide (v5 < (v0.length : Int)) then
  if decide (0 ≤ v5) then
   (v0[v5.toNat]?).bind fun x1 =>
    if (x1 == v1) then
     some true
    else
     Zfk v0 v1 (IntKind.i64.wrap (v5 + 1))
  else
   none
 else
  some false :=
 (goL_dn _ _ _ 4000 _ _).trans (by kernel_rfl)
def Zpr : C :=
 .seq (.seq (.reg false [.V 90 (.mv (.t 12)),.V 91 (.mv (.t 10)),.V 92 (.len (.t 91)),.V 93 (.bin .lss (.t 90) (.t 92))] [1,5,6,8,10,12,93] [5,6,8,10]) (.cond (.t 93) .skip (.exit 0))) (.seq (.block 1 (.seq (.reg true [.V 96 (.mv (.t 10)),.V 97 (.mv (.t 12)),.V 98 (.ia 3 (.t 96) (.t 97)),.V 99 (.ld (some 3) (.t 98)),.V 100 (.mv (.t 6)),.V 101 (.mv (.t 12)),.V 102 (.ia 3 (.t 100) (.t 101)),.V 103 (.ld (some 3) (.t 102)),.V 104 (.eqs true [.s,.s,.i] (.t 99) (.t 103))] [1,5,6,8,10,12,104] [5,6,8,10]) (.cond (.t 104) (.seq (.reg false [.V 4 (.asg (.c (.bool false)))] [4] []) .ret) .skip))) (.reg false [.V 94 (.mv (.t 12)),.V 95 (.bin .add (.t 94) (.c (.int .i64 1))),.V 12 (.asg (.t 95))] [1,5,6,8,10,12] [5,6,8,10]))
def Zpa : C :=
 .norm [1,5,6,8,10,12] [5,6,8,10] Zpr
def Zpp : C :=
 .seq (.seq (.reg false [.V 141 (.mv (.t 18)),.V 142 (.mv (.t 5)),.V 143 (.len (.t 142)),.V 144 (.bin .lss (.t 141) (.t 143))] [1,5,8,13,15,16,18,144] [5,8,13,16]) (.cond (.t 144) .skip (.exit 4))) (.seq (.block 5 (.seq (.reg true [.V 147 (.mv (.t 5)),.V 148 (.mv (.t 16)),.V 149 (.mv (.t 5)),.V 150 (.mv (.t 18)),.V 151 (.ia 2 (.t 149) (.t 150)),.V 152 (.fa 0 (.t 151)),.V 153 (.ld none (.t 152)),.V 154 (.mv (.t 8)),.V 155 (.mv (.t 13)),.V 156 (.mv (.t 15)),.V 157 (.ia 1 (.t 155) (.t 156)),.V 158 (.ld none (.t 157)),.V 159 (.ia 3 (.t 154) (.t 158)),.V 160 (.fa 1 (.t 159)),.V 161 (.ld none (.t 160)),.V 162 (.mv (.t 8)),.V 163 (.mv (.t 13)),.V 164 (.mv (.t 15)),.V 165 (.ia 1 (.t 163) (.t 164)),.V 166 (.ld none (.t 165)),.V 167 (.ia 3 (.t 162) (.t 166)),.V 168 (.fa 2 (.t 167)),.V 169 (.ld none (.t 168)),.V 170 (.call (.c (.fn 301 [])) [.t 147,.t 148,.t 153,.t 161,.t 169]),.V 171 (.un .not (.t 170)),.V 172 (.mv (.t 171)),.G 173 (.mv (.t 5)) 25 true,.G 174 (.mv (.t 8)) 25 true,.G 175 (.mv (.t 5)) 25 true,.G 176 (.mv (.t 18)) 25 true,.G 177 (.ia 2 (.t 175) (.t 176)) 25 true,.G 178 (.fa 0 (.t 177)) 25 true,.G 179 (.ld none (.t 178)) 25 true,.G 180 (.mv (.t 8)) 25 true,.G 181 (.mv (.t 13)) 25 true,.G 182 (.mv (.t 15)) 25 true,.G 183 (.ia 1 (.t 181) (.t 182)) 25 true,.G 184 (.ld none (.t 183)) 25 true,.G 185 (.ia 3 (.t 180) (.t 184)) 25 true,.G 186 (.fa 1 (.t 185)) 25 true,.G 187 (.ld none (.t 186)) 25 true,.G 188 (.mv (.t 8)) 25 true,.G 189 (.mv (.t 13)) 25 true,.G 190 (.mv (.t 15)) 25 true,.G 191 (.ia 1 (.t 189) (.t 190)) 25 true,.G 192 (.ld none (.t 191)) 25 true,.G 193 (.ia 3 (.t 188) (.t 192)) 25 true,.G 194 (.fa 2 (.t 193)) 25 true,.G 195 (.ld none (.t 194)) 25 true,.G 196 (.call (.c (.fn 301 [])) [.t 173,.t 174,.t 179,.t 187,.t 195]) 25 true,.V 197 (.pick (.t 172) (.t 196) (.c (.bool false)))] [1,5,8,13,15,16,18,197] [5,8,13,16]) (.cond (.t 197) (.seq (.reg false [.V 4 (.asg (.c (.bool false)))] [4] []) .ret) .skip))) (.reg false [.V 145 (.mv (.t 18)),.V 146 (.bin .add (.t 145) (.c (.int .i64 1))),.V 18 (.asg (.t 146))] [1,5,8,13,15,16,18] [5,8,13,16]))
def Zo6 : C :=
 .norm [1,5,8,13,15,16,18] [5,8,13,16] Zpp
def Zo5 : C :=
 .reg false [.V 124 (.mv (.t 15)),.V 125 (.bin .add (.t 124) (.c (.int .i64 1))),.V 15 (.asg (.t 125))] [1,5,8,13,15] [5,8,13]
def Zpq : C :=
 .seq (.seq (.reg false [.V 120 (.mv (.t 15)),.V 121 (.mv (.t 13)),.V 122 (.len (.t 121)),.V 123 (.bin .lss (.t 120) (.t 122))] [1,5,8,13,15,123] [5,8,13]) (.cond (.t 123) .skip (.exit 2))) (.seq (.block 3 (.seq (.reg false [.V 127 (.mv (.t 5)),.V 128 (.mv (.t 8)),.V 129 (.mv (.t 8)),.V 130 (.mv (.t 13)),.V 131 (.mv (.t 15)),.V 132 (.ia 1 (.t 130) (.t 131)),.V 133 (.ld none (.t 132)),.V 134 (.ia 3 (.t 129) (.t 133)),.V 135 (.ld (some 3) (.t 134)),.V 136 (.call (.c (.fn 304 [])) [.t 127,.t 128,.t 135]),.V 126 (.mv (.t 136)),.V 137 (.ext (.t 126) 0),.V 138 (.ext (.t 126) 1),.W 16 (.asg (.t 137)),.V 17 (.asg (.t 138))] [1,5,8,13,15,16,17] [5,8,13,16]) (.seq (.seq (.reg false [.V 139 (.mv (.t 17)),.V 140 (.bin .neq (.t 139) (.c (.int .i64 0)))] [1,5,8,13,15,16,140] [5,8,13,16]) (.cond (.t 140) (.seq (.reg false [.V 4 (.asg (.c (.bool false)))] [4] []) .ret) .skip)) (.seq (.reg false [.V 18 (.asg (.c (.int .i64 0)))] [1,5,8,13,15,16,18] [5,8,13,16]) (.block 4 (.loop Zo6)))))) Zo5)
def Zi9 : C :=
 .norm [1,5,8,13,15] [5,8,13] Zpq
def Zpi : C :=
 .seq (.reg false [.V 15 (.asg (.c (.int .i64 0)))] [1,5,8,13,15] [5,8,13]) (.block 2 (.loop Zi9))
def Zpt : C :=
 .seq (.reg false [.V 106 (.mv (.t 5)),.V 107 (.mv (.t 8)),.V 108 (.call (.c (.fn 305 [])) [.t 106,.t 107]),.V 105 (.mv (.t 108)),.V 109 (.ext (.t 105) 0),.V 110 (.ext (.t 105) 1),.W 13 (.asg (.t 109)),.V 14 (.asg (.t 110))] [1,5,8,13,14] [5,8,13]) (.seq (.seq (.reg false [.V 111 (.mv (.t 14)),.V 112 (.bin .neq (.t 111) (.c (.int .i64 0))),.V 113 (.mv (.t 112)),.G 114 (.mv (.t 13)) 2 false,.G 115 (.mv (.t 8)) 2 false,.G 116 (.len (.t 115)) 2 false,.G 117 (.call (.c (.fn 71 [])) [.t 114,.t 116]) 2 false,.G 118 (.un .not (.t 117)) 2 false,.V 119 (.pick (.t 113) (.c (.bool true)) (.t 118))] [1,5,8,13,119] [5,8,13]) (.cond (.t 119) (.seq (.reg false [.V 4 (.asg (.c (.bool false)))] [4] []) .ret) .skip)) (.norm [1,5,8,13] [5,8,13] Zpi))
def Zox : C :=
 .seq (.seq (.reg false [.V 12 (.asg (.c (.int .i64 0)))] [1,5,6,8,10,12] [5,6,8,10]) (.block 0 (.loop Zpa))) Zpt
def Zno : C :=
 .seq (.reg false [.V 250 (.mv (.t 26)),.V 251 (.mv (.t 23)),.V 252 (.mv (.t 19)),.V 253 (.mv (.t 25)),.V 254 (.ia 2 (.t 252) (.t 253)),.V 255 (.fa 0 (.t 254)),.V 256 (.ld none (.t 255)),.V 257 (.call (.c (.fn 232 [])) [.t 251,.t 256]),.V 258 (.eqb true (.t 250) (.t 257))] [19,20,21,22,23,25,258] [19,20,21,22,23]) (.cond (.t 258) (.seq (.reg false [.V 4 (.asg (.c (.bool false)))] [4] []) .ret) .skip)
def Zn7 : C :=
 .reg false [.V 222 (.mv (.t 25)),.V 223 (.bin .add (.t 222) (.c (.int .i64 1))),.V 25 (.asg (.t 223))] [19,20,21,22,23,25] [19,20,21,22,23]
def Znp : C :=
 .seq (.seq (.reg false [.V 218 (.mv (.t 25)),.V 219 (.mv (.t 19)),.V 220 (.len (.t 219)),.V 221 (.bin .lss (.t 218) (.t 220))] [19,20,21,22,23,25,221] [19,20,21,22,23]) (.cond (.t 221) .skip (.exit 6))) (.seq (.block 7 (.seq (.reg true [.V 224 (.mv (.t 19)),.V 225 (.mv (.t 20)),.V 226 (.mv (.t 19)),.V 227 (.mv (.t 25)),.V 228 (.ia 2 (.t 226) (.t 227)),.V 229 (.fa 0 (.t 228)),.V 230 (.ld none (.t 229)),.V 231 (.fa 1 (.t 21)),.V 232 (.ld none (.t 231)),.V 233 (.fa 2 (.t 21)),.V 234 (.ld none (.t 233)),.V 235 (.call (.c (.fn 301 [])) [.t 224,.t 225,.t 230,.t 232,.t 234]),.V 236 (.mv (.t 235)),.G 237 (.mv (.t 19)) 12 true,.G 238 (.mv (.t 20)) 12 true,.G 239 (.mv (.t 19)) 12 true,.G 240 (.mv (.t 25)) 12 true,.G 241 (.ia 2 (.t 239) (.t 240)) 12 true,.G 242 (.fa 0 (.t 241)) 12 true,.G 243 (.ld none (.t 242)) 12 true,.G 244 (.fa 1 (.t 22)) 12 true,.G 245 (.ld none (.t 244)) 12 true,.G 246 (.fa 2 (.t 22)) 12 true,.G 247 (.ld none (.t 246)) 12 true,.G 248 (.call (.c (.fn 301 [])) [.t 237,.t 238,.t 243,.t 245,.t 247]) 12 true,.V 249 (.pick (.t 236) (.t 248) (.c (.bool false))),.V 26 (.asg (.t 249))] [19,20,21,22,23,25,26] [19,20,21,22,23]) (.norm [19,20,21,22,23,25,26] [19,20,21,22,23] Zno))) Zn7)
def Zig : C :=
 .norm [19,20,21,22,23,25] [19,20,21,22,23] Znp
def Zic : C :=
 .seq (.reg false [.V 4 (.asg (.c (.bool true)))] [4] []) .ret
def Znu : C :=
 .seq (.reg false [.V 199 (.mv (.t 1)),.V 200 (.call (.c (.fn 303 [])) [.t 199]),.V 198 (.mv (.t 200)),.V 201 (.ext (.t 198) 0),.V 202 (.ext (.t 198) 1),.V 203 (.ext (.t 198) 2),.V 204 (.ext (.t 198) 3),.W 21 (.alloc 3 (.agg [.str [],.str [],.int .i64 0])),.W 22 (.alloc 3 (.agg [.str [],.str [],.int .i64 0])),.W 19 (.asg (.t 201)),.W 20 (.asg (.t 202)),⟨none,true,.sto 3 (.t 21) (.t 203),none,false,[]⟩,⟨none,true,.sto 3 (.t 22) (.t 204),none,false,[]⟩] [19,20,21,22] [19,20,21,22]) (.seq (.reg false [.V 206 (.mv (.t 19)),.V 207 (.mv (.t 20)),.V 208 (.ld (some 3) (.t 21)),.V 209 (.ld (some 3) (.t 22)),.W 210 (.call (.c (.fn 302 [])) [.t 206,.t 207,.t 208,.t 209]),.V 205 (.mv (.t 210)),.V 211 (.ext (.t 205) 0),.V 212 (.ext (.t 205) 1),.W 23 (.asg (.t 211)),.V 24 (.asg (.t 212))] [19,20,21,22,23,24] [19,20,21,22,23]) (.seq (.seq (.reg false [.V 213 (.mv (.t 24)),.V 214 (.bin .neq (.t 213) (.c (.int .i64 0)))] [19,20,21,22,23,214] [19,20,21,22,23]) (.cond (.t 214) (.seq (.reg false [.V 215 (.mv (.t 23)),.V 216 (.len (.t 215)),.V 217 (.bin .eql (.t 216) (.c (.int .i64 0))),.V 4 (.asg (.t 217))] [4] []) .ret) .skip)) (.seq (.seq (.reg false [.V 25 (.asg (.c (.int .i64 0)))] [19,20,21,22,23,25] [19,20,21,22,23]) (.block 6 (.loop Zig))) Zic)))
def Zdf : C :=
 .norm [1] [] Znu
def Zny : C :=
 .seq (.reg false [.V 34 (.mv (.t 0)),.V 35 (.call (.c (.fn 309 [])) [.t 34]),.V 33 (.mv (.t 35)),.V 36 (.ext (.t 33) 0),.V 37 (.ext (.t 33) 1),.V 38 (.ext (.t 33) 2),.W 7 (.alloc 3 (.agg [.str [],.str [],.int .i64 0])),.W 5 (.asg (.t 36)),.W 6 (.asg (.t 37)),⟨none,true,.sto 3 (.t 7) (.t 38),none,false,[]⟩] [1,5,6,7] [5,6,7]) (.seq (.reg false [.V 40 (.mv (.t 5)),.V 41 (.mv (.t 6)),.V 42 (.ld (some 3) (.t 7)),.W 43 (.call (.c (.fn 308 [])) [.t 40,.t 41,.t 42]),.V 39 (.mv (.t 43)),.V 44 (.ext (.t 39) 0),.V 45 (.ext (.t 39) 1),.W 8 (.asg (.t 44)),.V 9 (.asg (.t 45))] [1,5,6,7,8,9] [5,6,7,8]) (.seq (.seq (.reg false [.V 46 (.mv (.t 9)),.V 47 (.bin .eql (.t 46) (.c (.int .i64 0)))] [1,5,6,7,8,47] [5,6,7,8]) (.cond (.t 47) (.seq (.reg false [.V 49 (.mv (.t 5)),.V 50 (.mv (.t 8)),.V 51 (.ld (some 3) (.t 7)),.W 52 (.call (.c (.fn 307 [])) [.t 49,.t 50,.t 51]),.V 48 (.mv (.t 52)),.V 53 (.ext (.t 48) 0),.V 54 (.ext (.t 48) 1),.W 10 (.asg (.t 53)),.V 11 (.asg (.t 54))] [1,5,6,7,8,10,11] [5,6,7,8,10]) (.seq (.seq (.reg false [.V 55 (.mv (.t 5)),.V 56 (.mv (.t 8)),.V 57 (.call (.c (.fn 306 [])) [.t 55,.t 56]),.V 58 (.un .not (.t 57)),.V 59 (.mv (.t 58)),.G 60 (.mv (.t 8)) 4 false,.G 61 (.len (.t 60)) 4 false,.G 62 (.mv (.t 6)) 4 false,.G 63 (.len (.t 62)) 4 false,.G 64 (.bin .add (.t 63) (.c (.int .i64 1))) 4 false,.G 65 (.bin .neq (.t 61) (.t 64)) 4 false,.V 66 (.pick (.t 59) (.c (.bool true)) (.t 65)),.V 67 (.mv (.t 66)),.G 68 (.mv (.t 5)) 12 false,.G 69 (.mv (.t 8)) 12 false,.G 70 (.fa 0 (.t 7)) 12 false,.G 71 (.ld none (.t 70)) 12 false,.G 72 (.fa 1 (.t 7)) 12 false,.G 73 (.ld none (.t 72)) 12 false,.G 74 (.fa 2 (.t 7)) 12 false,.G 75 (.ld none (.t 74)) 12 false,.G 76 (.call (.c (.fn 301 [])) [.t 68,.t 69,.t 71,.t 73,.t 75]) 12 false,.G 77 (.un .not (.t 76)) 12 false,.V 78 (.pick (.t 67) (.c (.bool true)) (.t 77)),.V 79 (.mv (.t 78)),.G 80 (.mv (.t 11)) 24 false,.G 81 (.bin .neq (.t 80) (.c (.int .i64 0))) 24 false,.V 82 (.pick (.t 79) (.c (.bool true)) (.t 81)),.V 83 (.mv (.t 82)),.G 84 (.mv (.t 10)) 28 false,.G 85 (.len (.t 84)) 28 false,.G 86 (.mv (.t 6)) 28 false,.G 87 (.len (.t 86)) 28 false,.G 88 (.bin .neq (.t 85) (.t 87)) 28 false,.V 89 (.pick (.t 83) (.c (.bool true)) (.t 88))] [1,5,6,8,10,89] [5,6,8,10]) (.cond (.t 89) (.seq (.reg false [.V 4 (.asg (.c (.bool false)))] [4] []) .ret) .skip)) (.norm [1,5,6,8,10] [5,6,8,10] Zox))) .skip)) Zdf))
def Zbi : Fn := { np := 2,io := [],res := [.t 4],own := [false],body :=
 (.seq (.reg false [.V 4 (.asg (.c (.bool false)))] [0,1] []) (.seq (.seq (.reg false [.V 27 (.mv (.t 0)),.V 28 (.call (.c (.fn 76 [])) [.t 27]),.V 29 (.mv (.t 28)),.G 30 (.mv (.t 1)) 2 false,.G 31 (.call (.c (.fn 76 [])) [.t 30]) 2 false,.V 32 (.pick (.t 29) (.c (.bool true)) (.t 31))] [0,1,32] []) (.cond (.t 32) (.seq (.reg false [.V 4 (.asg (.c (.bool true)))] [4] []) .ret) .skip)) (.norm [0,1] [] Zny))) }
noncomputable def Zbe : List (Nat × Callee) := [(71,Zki),(76,Zlo),(232,Zi4),(301,Zhh),(302,Zhf),(303,Zfh),(304,Zg5),(305,Zfp),(306,Zhk),(307,Zhn),(308,Zkk),(309,Zgn)]
def Zby : List (Nat × ET) := [(5,T_Role),(6,Zaa),(8,Zaa),(10,Zaa),(13,(.one (.int .i64))),(16,Zaa),(19,T_Role),(20,Zaa),(23,(.one .str)),(27,(.one (.int .u8))),(30,(.one (.int .u8))),(34,(.one (.int .u8))),(36,T_Role),(37,Zaa),(40,T_Role),(41,Zaa),(44,Zaa),(49,T_Role),(50,Zaa),(53,Zaa),(55,T_Role),(56,Zaa),(60,Zaa),(62,Zaa),(68,T_Role),(69,Zaa),(84,Zaa),(86,Zaa),(91,Zaa),(96,Zaa),(100,Zaa),(106,T_Role),(107,Zaa),(109,(.one (.int .i64))),(114,(.one (.int .i64))),(115,Zaa),(121,(.one (.int .i64))),(127,T_Role),(128,Zaa),(129,Zaa),(130,(.one (.int .i64))),(137,Zaa),(142,T_Role),(147,T_Role),(148,Zaa),(149,T_Role),(154,Zaa),(155,(.one (.int .i64))),(162,Zaa),(163,(.one (.int .i64))),(173,T_Role),(174,Zaa),(175,T_Role),(180,Zaa),(181,(.one (.int .i64))),(188,Zaa),(189,(.one (.int .i64))),(199,(.one (.int .u8))),(201,T_Role),(202,Zaa),(206,T_Role),(207,Zaa),(211,(.one .str)),(215,(.one .str)),(219,T_Role),(224,T_Role),(225,Zaa),(226,T_Role),(237,T_Role),(238,Zaa),(239,T_Role),(251,(.one .str)),(252,T_Role)]
noncomputable def Zfa : Callee := Zad Zbe Zby Zbi [.d (.one (.sl (.one (.int .u8)))),.d (.one (.sl (.one (.int .u8))))] [.d (.one .bool)] []
noncomputable def Ztv (a0 : List Int) (a1 : List Int) : Option (Bool) := Zfa.f (a0,a1,())
noncomputable def Zps  (v0 : List Int) (v1 : List Int) : Option (Bool) :=
 goL Zbe Zby (vleave Zbi [.d (.one (.sl (.one (.int .u8)))),.d (.one (.sl (.one (.int .u8))))] [.d (.one .bool)] [] []) [.c Zny]
  ⟨[(0,.sl (.one (.int .u8)) v0),(1,.sl (.one (.int .u8)) v1)],[]⟩
noncomputable def Zpg  (v1 : List Int) (v5 : List T_Role.ty) (v6 : List Zaa.ty) (v8 : List Zaa.ty) (v10 : List Zaa.ty) : Option (Bool) :=
 goL Zbe Zby (vleave Zbi [.d (.one (.sl (.one (.int .u8)))),.d (.one (.sl (.one (.int .u8))))] [.d (.one .bool)] [] []) [.c Zox,.c Zdf]
  ⟨[(1,.sl (.one (.int .u8)) v1),(5,.sl T_Role v5),(6,.sl Zaa v6),(8,.sl Zaa v8),(10,.sl Zaa v10)],[(5,none),(6,none),(8,none),(10,none)]⟩
noncomputable def Zeo  (v1 : List Int) : Option (Bool) :=
 goL Zbe Zby (vleave Zbi [.d (.one (.sl (.one (.int .u8)))),.d (.one (.sl (.one (.int .u8))))] [.d (.one .bool)] [] []) [.c Znu]
  ⟨[(1,.sl (.one (.int .u8)) v1)],[]⟩
noncomputable def Zd7  (v1 : List Int) (v5 : List T_Role.ty) (v6 : List Zaa.ty) (v8 : List Zaa.ty) (v10 : List Zaa.ty) (v12 : Int) : Option (Bool) :=
 goL Zbe Zby (vleave Zbi [.d (.one (.sl (.one (.int .u8)))),.d (.one (.sl (.one (.int .u8))))] [.d (.one .bool)] [] []) [.c Zpr,.l Zpa,.e 0,.c Zpt,.c Zdf]
  ⟨[(1,.sl (.one (.int .u8)) v1),(5,.sl T_Role v5),(6,.sl Zaa v6),(8,.sl Zaa v8),(10,.sl Zaa v10),(12,.int .i64 v12)],[(5,none),(6,none),(8,none),(10,none)]⟩
noncomputable def Zgd  (v19 : List T_Role.ty) (v20 : List Zaa.ty) (v23 : List (List UInt8)) (v25 : Int) (r21_0 : List UInt8) (r21_1 : List UInt8) (r21_2 : Int) (r22_0 : List UInt8) (r22_1 : List UInt8) (r22_2 : Int) : Option (Bool) :=
 goL Zbe Zby (vleave Zbi [.d (.one (.sl (.one (.int .u8)))),.d (.one (.sl (.one (.int .u8))))] [.d (.one .bool)] [] []) [.c Znp,.l Zig,.e 6,.c Zic]
  ⟨[(19,.sl T_Role v19),(20,.sl Zaa v20),(21,.loc 21 0 0),(22,.loc 22 0 0),(23,.sl (.one .str) v23),(25,.int .i64 v25)],[(19,none),(20,none),(21,some (.var 3 (.agg [.str r21_0,.str r21_1,.int .i64 r21_2]))),(22,some (.var 3 (.agg [.str r22_0,.str r22_1,.int .i64 r22_2]))),(23,none)]⟩
noncomputable def Zo2  (v1 : List Int) (v5 : List T_Role.ty) (v8 : List Zaa.ty) (r13 : List Int) : Option (Bool) :=
 goL Zbe Zby (vleave Zbi [.d (.one (.sl (.one (.int .u8)))),.d (.one (.sl (.one (.int .u8))))] [.d (.one .bool)] [] []) [.c Zpi,.c Zdf]
  ⟨[(1,.sl (.one (.int .u8)) v1),(5,.sl T_Role v5),(8,.sl Zaa v8),(13,.view 13 0 r13.length)],[(5,none),(8,none),(13,some (.sl (.one (.int .i64)) r13))]⟩
noncomputable def Zf0  (v19 : List T_Role.ty) (v20 : List Zaa.ty) (v23 : List (List UInt8)) (v25 : Int) (v26 : Bool) (r21_0 : List UInt8) (r21_1 : List UInt8) (r21_2 : Int) (r22_0 : List UInt8) (r22_1 : List UInt8) (r22_2 : Int) : Option (Bool) :=
 goL Zbe Zby (vleave Zbi [.d (.one (.sl (.one (.int .u8)))),.d (.one (.sl (.one (.int .u8))))] [.d (.one .bool)] [] []) [.c Zno,.e 7,.c Zn7,.l Zig,.e 6,.c Zic]
  ⟨[(19,.sl T_Role v19),(20,.sl Zaa v20),(21,.loc 21 0 0),(22,.loc 22 0 0),(23,.sl (.one .str) v23),(25,.int .i64 v25),(26,.bool v26)],[(19,none),(20,none),(21,some (.var 3 (.agg [.str r21_0,.str r21_1,.int .i64 r21_2]))),(22,some (.var 3 (.agg [.str r22_0,.str r22_1,.int .i64 r22_2]))),(23,none)]⟩
noncomputable def Zeh  (v1 : List Int) (v5 : List T_Role.ty) (v8 : List Zaa.ty) (v15 : Int) (r13 : List Int) : Option (Bool) :=
 goL Zbe Zby (vleave Zbi [.d (.one (.sl (.one (.int .u8)))),.d (.one (.sl (.one (.int .u8))))] [.d (.one .bool)] [] []) [.c Zpq,.l Zi9,.e 2,.c Zdf]
  ⟨[(1,.sl (.one (.int .u8)) v1),(5,.sl T_Role v5),(8,.sl Zaa v8),(13,.view 13 0 r13.length),(15,.int .i64 v15)],[(5,none),(8,none),(13,some (.sl (.one (.int .i64)) r13))]⟩
noncomputable def Zd8  (v1 : List Int) (v5 : List T_Role.ty) (v8 : List Zaa.ty) (v15 : Int) (v18 : Int) (r13 : List Int) (r16 : List Zaa.ty) : Option (Bool) :=
 goL Zbe Zby (vleave Zbi [.d (.one (.sl (.one (.int .u8)))),.d (.one (.sl (.one (.int .u8))))] [.d (.one .bool)] [] []) [.c Zpp,.l Zo6,.e 4,.e 3,.c Zo5,.l Zi9,.e 2,.c Zdf]
  ⟨[(1,.sl (.one (.int .u8)) v1),(5,.sl T_Role v5),(8,.sl Zaa v8),(13,.view 13 0 r13.length),(15,.int .i64 v15),(16,.view 16 0 r16.length),(18,.int .i64 v18)],[(5,none),(8,none),(13,some (.sl (.one (.int .i64)) r13)),(16,some (.sl Zaa r16))]⟩
theorem Zxv (a0 : List Int) (a1 : List Int) : Ztv a0 a1 =
 (Zhe a0).bind fun x1 =>
  if x1 then
   some true
  else
   (Zhe a1).bind fun x2 =>
    if x2 then
     some true
    else
     Zps a0 a1 :=
 (mk_f _ _ _ _ _ _ _ 4000).trans (by kernel_rfl)
theorem Zud  (v0 : List Int) (v1 : List Int) : Zps v0 v1 =
 (Zh6 v0).bind fun x1 =>
  (Zi2 x1.1 (x1.2.1.take x1.2.1.length) (x1.2.2.1,x1.2.2.2.1,x1.2.2.2.2.1,())).bind fun x2 =>
   if (x2.2 == 0) then
    (Zgb x1.1 x2.1 (x1.2.2.1,x1.2.2.2.1,x1.2.2.2.2.1,())).bind fun x3 =>
     (Zjb x1.1 x2.1).bind fun x4 =>
      if (!x4) then
       some false
      else
       if ((x2.1.length : Int) != IntKind.i64.wrap (((x1.2.1.take x1.2.1.length).length : Int) + 1)) then
        some false
       else
        (Zay x1.1 x2.1 x1.2.2.1 x1.2.2.2.1 x1.2.2.2.2.1).bind fun x5 =>
         if (!x5) then
          some false
         else
          if (x3.2 != 0) then
           some false
          else
           if ((x3.1.length : Int) != ((x1.2.1.take x1.2.1.length).length : Int)) then
            some false
           else
            Zpg v1 x1.1 (x1.2.1.take x1.2.1.length) x2.1 x3.1
   else
    Zeo v1 :=
 (goL_dn _ _ _ 4000 _ _).trans (by kernel_rfl)
theorem Zue  (v1 : List Int) (v5 : List T_Role.ty) (v6 : List Zaa.ty) (v8 : List Zaa.ty) (v10 : List Zaa.ty) : Zpg v1 v5 v6 v8 v10 =
 Zd7 v1 v5 v6 v8 v10 0 :=
 (goL_dn _ _ _ 4000 _ _).trans (by kernel_rfl)
theorem Ztz  (v1 : List Int) : Zeo v1 =
 (Zgh v1).bind fun x1 =>
  (Zf3 x1.1 (x1.2.1.take x1.2.1.length) (x1.2.2.1.1,x1.2.2.1.2.1,x1.2.2.1.2.2.1,()) (x1.2.2.2.1,x1.2.2.2.2.1,x1.2.2.2.2.2.1,())).bind fun x2 =>
   if (x2.2 != 0) then
    some ((x2.1.length : Int) == 0)
   else
    Zgd x1.1 (x1.2.1.take x1.2.1.length) x2.1 0 x1.2.2.1.1 x1.2.2.1.2.1 x1.2.2.1.2.2.1 x1.2.2.2.1 x1.2.2.2.2.1 x1.2.2.2.2.2.1 :=
 (goL_dn _ _ _ 4000 _ _).trans (by kernel_rfl)
theorem Zlk  (v1 : List Int) (v5 : List T_Role.ty) (v6 : List Zaa.ty) (v8 : List Zaa.ty) (v10 : List Zaa.ty) (v12 : Int) : Zd7 v1 v5 v6 v8 v10 v12 =
 if decide (v12 < (v10.length : Int)) then
  if decide (0 ≤ v12) then
   (v10[v12.toNat]?).bind fun x1 =>
    if decide (0 ≤ v12) then
     (v6[v12.toNat]?).bind fun x2 =>
      if (!((x1.1 == x2.1) && ((x1.2.1 == x2.2.1) && (x1.2.2.1 == x2.2.2.1)))) then
       some false
      else
       Zd7 v1 v5 v6 v8 v10 (IntKind.i64.wrap (v12 + 1))
    else
     none
  else
   none
 else
  (Zgr v5 v8).bind fun x3 =>
   if (x3.2 != 0) then
    some false
   else
    (Zni (x3.1.take x3.1.length) (v8.length : Int)).bind fun x4 =>
     if (!x4) then
      some false
     else
      Zo2 v1 v5 v8 x3.1 :=
 (goL_dn _ _ _ 4000 _ _).trans (by kernel_rfl)
theorem Zli  (v19 : List T_Role.ty) (v20 : List Zaa.ty) (v23 : List (List UInt8)) (v25 : Int) (r21_0 : List UInt8) (r21_1 : List UInt8) (r21_2 : Int) (r22_0 : List UInt8) (r22_1 : List UInt8) (r22_2 : Int) : Zgd v19 v20 v23 v25 r21_0 r21_1 r21_2 r22_0 r22_1 r22_2 =
 if decide (v25 < (v19.length : Int)) then
  if decide (0 ≤ v25) then
   (v19[v25.toNat]?).bind fun x1 =>
    (Zay v19 v20 x1.1 r21_1 r21_2).bind fun x2 =>
     if x2 then
      if decide (0 ≤ v25) then
       (v19[v25.toNat]?).bind fun x3 =>
        (Zay v19 v20 x3.1 r22_1 r22_2).bind fun x4 =>
         Zf0 v19 v20 v23 v25 x4 r21_0 r21_1 r21_2 r22_0 r22_1 r22_2
      else
       none
     else
      Zf0 v19 v20 v23 v25 false r21_0 r21_1 r21_2 r22_0 r22_1 r22_2
  else
   none
 else
  some true :=
 (goL_dn _ _ _ 4000 _ _).trans (by kernel_rfl)
theorem Zt7  (v1 : List Int) (v5 : List T_Role.ty) (v8 : List Zaa.ty) (r13 : List Int) : Zo2 v1 v5 v8 r13 =
 Zeh v1 v5 v8 0 r13 :=
 (goL_dn _ _ _ 4000 _ _).trans (by kernel_rfl)
theorem Zuc  (v19 : List T_Role.ty) (v20 : List Zaa.ty) (v23 : List (List UInt8)) (v25 : Int) (v26 : Bool) (r21_0 : List UInt8) (r21_1 : List UInt8) (r21_2 : Int) (r22_0 : List UInt8) (r22_1 : List UInt8) (r22_2 : Int) : Zf0 v19 v20 v23 v25 v26 r21_0 r21_1 r21_2 r22_0 r22_1 r22_2 =
 if decide (0 ≤ v25) then
  (v19[v25.toNat]?).bind fun x1 =>
   (Zlq v23 x1.1).bind fun x2 =>
    if (!(v26 == x2)) then
     some false
    else
     Zgd v19 v20 v23 (IntKind.i64.wrap (v25 + 1)) r21_0 r21_1 r21_2 r22_0 r22_1 r22_2
 else
  none :=
 (goL_dn _ _ _ 4000 _ _).trans (by kernel_rfl)
theorem Zll  (v1 : List Int) (v5 : List T_Role.ty) (v8 : List Zaa.ty) (v15 : Int) (r13 : List Int) : Zeh v1 v5 v8 v15 r13 =
 if decide (v15 < (r13.length : Int)) then
  if decide (0 ≤ v15) && decide (v15 < (r13.length : Int)) then
   (r13[v15.toNat]?).bind fun x1 =>
    if decide (0 ≤ x1) then
     (v8[x1.toNat]?).bind fun x2 =>
      (Zjh v5 v8 x2).bind fun x3 =>
       if (x3.2 != 0) then
        some false
       else
        Zd8 v1 v5 v8 v15 0 r13 x3.1
    else
     none
  else
   none
 else
  Zeo v1 :=
 (goL_dn _ _ _ 4000 _ _).trans (by kernel_rfl)
theorem Zlb  (v1 : List Int) (v5 : List T_Role.ty) (v8 : List Zaa.ty) (v15 : Int) (v18 : Int) (r13 : List Int) (r16 : List Zaa.ty) : Zd8 v1 v5 v8 v15 v18 r13 r16 =
 if decide (v18 < (v5.length : Int)) then
  if decide (0 ≤ v18) then
   (v5[v18.toNat]?).bind fun x1 =>
    if decide (0 ≤ v15) && decide (v15 < (r13.length : Int)) then
     (r13[v15.toNat]?).bind fun x2 =>
      if decide (0 ≤ x2) then
       (v8[x2.toNat]?).bind fun x3 =>
        if decide (0 ≤ v15) && decide (v15 < (r13.length : Int)) then
         (r13[v15.toNat]?).bind fun x4 =>
          if decide (0 ≤ x4) then
           (v8[x4.toNat]?).bind fun x5 =>
            (Zay v5 (r16.take r16.length) x1.1 x3.2.1 x5.2.2.1).bind fun x6 =>
             if (!x6) then
              if decide (0 ≤ v18) then
               (v5[v18.toNat]?).bind fun x7 =>
                if decide (0 ≤ v15) && decide (v15 < (r13.length : Int)) then
                 (r13[v15.toNat]?).bind fun x8 =>
                  if decide (0 ≤ x8) then
                   (v8[x8.toNat]?).bind fun x9 =>
                    if decide (0 ≤ v15) && decide (v15 < (r13.length : Int)) then
                     (r13[v15.toNat]?).bind fun x10 =>
                      if decide (0 ≤ x10) then
                       (v8[x10.toNat]?).bind fun x11 =>
                        (Zay v5 v8 x7.1 x9.2.1 x11.2.2.1).bind fun x12 =>
                         if x12 then
                          some false
                         else
                          Zd8 v1 v5 v8 v15 (IntKind.i64.wrap (v18 + 1)) r13 r16
                      else
                       none
                    else
                     none
                  else
                   none
                else
                 none
              else
               none
             else
              Zd8 v1 v5 v8 v15 (IntKind.i64.wrap (v18 + 1)) r13 r16
          else
           none
        else
         none
      else
       none
    else
     none
  else
   none
 else
  Zeh v1 v5 v8 (IntKind.i64.wrap (v15 + 1)) r13 :=
 (goL_dn _ _ _ 4000 _ _).trans (by kernel_rfl)
end Go.Ab.P
