/- Functions of the program: abstract forms, and what their runs give. Conditions: none. -/
import Derived.Test.YtobkmdnplcmndaaGreatDoorLI
import Derived.Test.YtobkmdnplcmndaaGreatDoorL8
set_option maxRecDepth 100000
set_option linter.unusedVariables false
namespace Go.Ab.P
open Go.Ab
@[reducible] def Zoj : ET := .agg (.cons .str (.cons (.int .i64) .nil))
@[reducible] def Zaa : ET := .agg (.cons .str (.cons .str (.cons (.int .i64) .nil)))
@[reducible] def T_Role : ET := .agg (.cons .str (.cons (.sl (.one .str)) .nil))
@[reducible] def Zac : ET := .agg (.cons (.sl (.one (.int .u8))) (.cons (.int .i64) (.cons (.int .u64) .nil)))
def Zwm : Fn := { np := 1,io := [],res := [.t 2],own := [false],body :=
 (.seq (.reg false [.V 2 (.asg (.c (.bool false)))] [0] []) (.seq (.reg false [.V 3 (.mv (.t 0)),.V 4 (.len (.t 3)),.V 5 (.bin .gtr (.t 4) (.c (.int .i64 1048576))),.V 2 (.asg (.t 5))] [2] []) .ret)) }
noncomputable def Zo8 : List (Nat × Callee) := []
def Zx6 : List (Nat × ET) := [(3,(.one (.int .u8)))]
noncomputable def Zjo : Callee := Zad Zo8 Zx6 Zwm [.d (.one (.sl (.one (.int .u8))))] [.d (.one .bool)] []
noncomputable def Zfp (a0 : List Int) : Option (Bool) := Zjo.f (a0,())
theorem Zny (a0 : List Int) : Zfp a0 =
 some (decide ((a0.length : Int) > 1048576)) :=
 (mk_f _ _ _ _ _ _ _ 4000).trans (by kernel_rfl)
def Zv8 : Fn := { np := 1,io := [],res := [.t 2],own := [true],body :=
 (.seq (.reg false [.V 2 (.asg (.c (.cst (.pointer none))))] [0] []) (.seq (.reg false [.V 3 (.mv (.t 0)),.V 4 (.build [.nils 1,.int .i64 0,.int .u64 0] [(0,1,.t 3)]),.W 5 (.box 3 (.t 4)),.V 2 (.asg (.t 5))] [2] [5,6000]) .ret)) }
noncomputable def Zpy : List (Nat × Callee) := []
def Zxn : List (Nat × ET) := [(3,(.one (.int .u8)))]
noncomputable def Zf1 : Callee := Zad Zpy Zxn Zv8 [.d (.one (.sl (.one (.int .u8))))] [.box Zac] []
noncomputable def Zia (a0 : List Int) : Option (Zac.ty) := Zf1.f (a0,())
theorem Zwu (a0 : List Int) : Zia a0 =
 some (a0,0,0,()) :=
 (mk_f _ _ _ _ _ _ _ 4000).trans (by kernel_rfl)
def Zjh : C :=
 .seq (.reg false [.V 25 (.mv (.t 0)),.V 26 (.nilck (.t 25)),.V 27 (.fa 1 (.t 26)),.V 28 (.ld none (.t 27)),.V 29 (.bin .add (.t 28) (.c (.int .i64 1))),.V 30 (.nilck (.t 25)),.V 31 (.fa 1 (.t 30)),⟨none,true,.sto 1 (.t 31) (.t 29),none,false,[]⟩] [0,3] [0,1000]) (.seq (.reg false [.V 32 (.mv (.t 0)),.V 33 (.mv (.t 0)),.V 34 (.nilck (.t 33)),.V 35 (.fa 2 (.t 34)),.V 36 (.ld none (.t 35)),.V 37 (.bin .mul (.t 36) (.c (.int .u64 6364136223846793005))),.V 38 (.mv (.t 3)),.V 39 (.conv (.int .u64) (.t 38)),.V 40 (.bin .add (.t 37) (.t 39)),.V 41 (.bin .add (.t 40) (.c (.int .u64 1442695040888963407))),.V 42 (.nilck (.t 32)),.V 43 (.fa 2 (.t 42)),⟨none,true,.sto 1 (.t 43) (.t 41),none,false,[]⟩] [0,3] [0,1000]) (.seq (.seq (.reg true [.V 44 (.mv (.t 0)),.V 45 (.nilck (.t 44)),.V 46 (.fa 1 (.t 45)),.V 47 (.ld none (.t 46)),.V 48 (.mv (.t 0)),.V 49 (.nilck (.t 48)),.V 50 (.fa 0 (.t 49)),.V 51 (.ld none (.t 50)),.V 52 (.len (.t 51)),.V 53 (.bin .leq (.t 47) (.t 52))] [0,3,53] [0,1000]) (.cond (.t 53) (.seq (.reg false [.V 54 (.mv (.t 3)),.V 2 (.asg (.t 54))] [0,2] [0,1000]) .ret) .skip)) (.seq (.reg false [.V 55 (.mv (.t 0)),.V 56 (.nilck (.t 55)),.V 57 (.fa 2 (.t 56)),.V 58 (.ld none (.t 57)),.V 59 (.bin .shr (.t 58) (.c (.int .u64 40))),.V 60 (.bin .and (.t 59) (.c (.int .u64 255))),.V 61 (.conv (.int .i64) (.t 60)),.V 2 (.asg (.t 61))] [0,2] [0,1000]) .ret)))
def Zi5 : Fn := { np := 1,io := [true],res := [.t 2],own := [false],body :=
 (.seq (.reg false [.V 2 (.asg (.c (.int .i64 0)))] [0] [0,1000]) (.seq (.reg false [.V 3 (.asg (.c (.int .i64 0)))] [0,3] [0,1000]) (.seq (.seq (.reg true [.V 4 (.mv (.t 0)),.V 5 (.nilck (.t 4)),.V 6 (.fa 1 (.t 5)),.V 7 (.ld none (.t 6)),.V 8 (.mv (.t 0)),.V 9 (.nilck (.t 8)),.V 10 (.fa 0 (.t 9)),.V 11 (.ld none (.t 10)),.V 12 (.len (.t 11)),.V 13 (.bin .lss (.t 7) (.t 12))] [0,3,13] [0,1000]) (.cond (.t 13) (.reg true [.V 14 (.mv (.t 0)),.V 15 (.nilck (.t 14)),.V 16 (.fa 0 (.t 15)),.V 17 (.ld none (.t 16)),.V 18 (.mv (.t 0)),.V 19 (.nilck (.t 18)),.V 20 (.fa 1 (.t 19)),.V 21 (.ld none (.t 20)),.V 22 (.ia 1 (.t 17) (.t 21)),.V 23 (.ld none (.t 22)),.V 24 (.conv (.int .i64) (.t 23)),.V 3 (.asg (.t 24))] [0,3] [0,1000]) .skip)) (.norm [0,3] [0,1000] Zjh)))) }
noncomputable def Zfg : List (Nat × Callee) := []
def Zkx : List (Nat × ET) := [(11,(.one (.int .u8))),(17,(.one (.int .u8))),(51,(.one (.int .u8)))]
noncomputable def Zfi : Callee := Zad Zfg Zkx Zi5 [.box Zac] [.d (.one (.int .i64))] [.box Zac]
noncomputable def Zc6 (a0 : Zac.ty) : Option (Int × Zac.ty) := Zfi.f (a0,())
noncomputable def Zdg  (v3 : Int) (r0_0 : List Int) (r0_1 : Int) (r0_2 : Int) : Option (Int × Zac.ty) :=
 goL Zfg Zkx (vleave Zi5 [.box Zac] [.d (.one (.int .i64))] [.box Zac] []) [.c Zjh]
  ⟨[(0,.loc 0 0 0),(3,.int .i64 v3)],[(0,some (.var 3 (.agg [.sl (.one (.int .u8)) r0_0,.int .i64 r0_1,.int .u64 r0_2]))),(1000,none)]⟩
theorem Zrn (a0 : Zac.ty) : Zc6 a0 =
 if decide (a0.2.1 < (a0.1.length : Int)) then
  if decide (0 ≤ a0.2.1) then
   (a0.1[a0.2.1.toNat]?).bind fun x1 =>
    Zdg (IntKind.i64.wrap x1) a0.1 a0.2.1 a0.2.2.1
  else
   none
 else
  Zdg 0 a0.1 a0.2.1 a0.2.2.1 :=
 (mk_f _ _ _ _ _ _ _ 4000).trans (by kernel_rfl)
theorem Zo3  (v3 : Int) (r0_0 : List Int) (r0_1 : Int) (r0_2 : Int) : Zdg v3 r0_0 r0_1 r0_2 =
 if decide (IntKind.i64.wrap (r0_1 + 1) ≤ (r0_0.length : Int)) then
  some (v3,(r0_0,IntKind.i64.wrap (r0_1 + 1),IntKind.u64.wrap ((IntKind.u64.wrap ((IntKind.u64.wrap (r0_2 * 6364136223846793005)) + (IntKind.u64.wrap v3))) + 1442695040888963407),()))
 else
  some (IntKind.i64.wrap (IntKind.u64.wrap ((BitVec.ofInt IntKind.u64.bits (Int.fdiv (IntKind.u64.wrap ((IntKind.u64.wrap ((IntKind.u64.wrap (r0_2 * 6364136223846793005)) + (IntKind.u64.wrap v3))) + 1442695040888963407)) (2 ^ (min (40 : Int).toNat IntKind.u64.bits))) &&& BitVec.ofInt IntKind.u64.bits 255).toNat : Int)),(r0_0,IntKind.i64.wrap (r0_1 + 1),IntKind.u64.wrap ((IntKind.u64.wrap ((IntKind.u64.wrap (r0_2 * 6364136223846793005)) + (IntKind.u64.wrap v3))) + 1442695040888963407),())) :=
 (goL_dn _ _ _ 4000 _ _).trans (by kernel_rfl)
def Zrr : Fn := { np := 2,io := [true,false],res := [.t 4],own := [false],body :=
 (.seq (.reg false [.V 4 (.asg (.c (.int .i64 0)))] [0,1] [0,1000]) (.seq (.seq (.reg false [.V 6 (.mv (.t 1)),.V 7 (.bin .leq (.t 6) (.c (.int .i64 1)))] [0,1,7] [0,1000]) (.cond (.t 7) (.seq (.reg false [.V 4 (.asg (.c (.int .i64 0)))] [0,4] [0,1000]) .ret) .skip)) (.seq (.reg false [.V 8 (.mv (.t 0)),.W 9 (.call (.c (.fn 847 [])) [.t 8]),.V 5 (.asg (.t 9))] [0,1,5] [0,1000]) (.seq (.seq (.reg false [.V 10 (.mv (.t 1)),.V 11 (.bin .gtr (.t 10) (.c (.int .i64 200)))] [0,1,5,11] [0,1000]) (.cond (.t 11) (.reg false [.V 12 (.mv (.t 5)),.V 13 (.bin .mul (.t 12) (.c (.int .i64 256))),.V 14 (.mv (.t 0)),.W 15 (.call (.c (.fn 847 [])) [.t 14]),.V 16 (.bin .add (.t 13) (.t 15)),.V 5 (.asg (.t 16))] [0,1,5] [0,1000]) .skip)) (.seq (.reg false [.V 17 (.mv (.t 5)),.V 18 (.mv (.t 1)),.V 19 (.bin .rem (.t 17) (.t 18)),.V 4 (.asg (.t 19))] [0,4] [0,1000]) .ret))))) }
noncomputable def Zkt : List (Nat × Callee) := [(847,Zfi)]
def Zsu : List (Nat × ET) := []
noncomputable def Zbi : Callee := Zad Zkt Zsu Zrr [.box Zac,.d (.one (.int .i64))] [.d (.one (.int .i64))] [.box Zac]
noncomputable def Zak (a0 : Zac.ty) (a1 : Int) : Option (Int × Zac.ty) := Zbi.f (a0,a1,())
theorem Zrz (a0 : Zac.ty) (a1 : Int) : Zak a0 a1 =
 if decide (a1 ≤ 1) then
  some (0,a0)
 else
  (Zc6 a0).bind fun x1 =>
   if decide (a1 > 200) then
    (Zc6 (x1.2.1,x1.2.2.1,x1.2.2.2.1,())).bind fun x2 =>
     if decide (a1 = 0) then
      none
     else
      some ((IntKind.i64.wrap ((IntKind.i64.wrap (x1.1 * 256)) + x2.1)).tmod a1,(x2.2.1,x2.2.2.1,x2.2.2.2.1,()))
   else
    if decide (a1 = 0) then
     none
    else
     some (x1.1.tmod a1,(x1.2.1,x1.2.2.1,x1.2.2.2.1,())) :=
 (mk_f _ _ _ _ _ _ _ 4000).trans (by kernel_rfl)
def Zs2 : Fn := { np := 2,io := [true,false],res := [.t 4],own := [false],body :=
 (.seq (.reg false [.V 4 (.asg (.c (.bool false)))] [0,1] [0,1000]) (.seq (.reg false [.V 5 (.mv (.t 0)),.V 6 (.mv (.t 1)),.W 7 (.call (.c (.fn 463 [])) [.t 5,.t 6]),.V 8 (.bin .eql (.t 7) (.c (.int .i64 0))),.V 4 (.asg (.t 8))] [0,4] [0,1000]) .ret)) }
noncomputable def Zli : List (Nat × Callee) := [(463,Zbi)]
def Zty : List (Nat × ET) := []
noncomputable def Zmc : Callee := Zad Zli Zty Zs2 [.box Zac,.d (.one (.int .i64))] [.d (.one .bool)] [.box Zac]
noncomputable def Zbm (a0 : Zac.ty) (a1 : Int) : Option (Bool × Zac.ty) := Zmc.f (a0,a1,())
theorem Zsj (a0 : Zac.ty) (a1 : Int) : Zbm a0 a1 =
 (Zak a0 a1).bind fun x1 =>
  some ((x1.1 == 0),(x1.2.1,x1.2.2.1,x1.2.2.2.1,())) :=
 (mk_f _ _ _ _ _ _ _ 4000).trans (by kernel_rfl)
def Zr2 : Fn := { np := 2,io := [true,false],res := [.t 4],own := [false],body :=
 (.seq (.reg false [.V 4 (.asg (.c (.str [])))] [0,1] [0,1000]) (.seq (.reg false [.V 5 (.mv (.t 1)),.V 6 (.mv (.t 0)),.V 7 (.mv (.t 1)),.V 8 (.len (.t 7)),.W 9 (.call (.c (.fn 463 [])) [.t 6,.t 8]),.V 10 (.ia 1 (.t 5) (.t 9)),.V 11 (.ld none (.t 10)),.V 4 (.asg (.t 11))] [0,4] [0,1000]) .ret)) }
noncomputable def Zkp : List (Nat × Callee) := [(463,Zbi)]
def Zsq : List (Nat × ET) := [(5,(.one .str)),(7,(.one .str))]
noncomputable def Zcd : Callee := Zad Zkp Zsq Zr2 [.box Zac,.d (.one (.sl (.one .str)))] [.d (.one .str)] [.box Zac]
noncomputable def Zbb (a0 : Zac.ty) (a1 : List (List UInt8)) : Option (List UInt8 × Zac.ty) := Zcd.f (a0,a1,())
theorem Zr0 (a0 : Zac.ty) (a1 : List (List UInt8)) : Zbb a0 a1 =
 (Zak a0 (a1.length : Int)).bind fun x1 =>
  if decide (0 ≤ x1.1) then
   (a1[x1.1.toNat]?).bind fun x2 =>
    some (x2,(x1.2.1,x1.2.2.1,x1.2.2.2.1,()))
  else
   none :=
 (mk_f _ _ _ _ _ _ _ 4000).trans (by kernel_rfl)
def Zqx : Fn := { np := 2,io := [true,false],res := [.t 4],own := [false],body :=
 (.seq (.reg false [.V 4 (.asg (.c (.int .i64 0)))] [0,1] [0,1000]) (.seq (.reg false [.V 5 (.mv (.t 1)),.V 6 (.mv (.t 0)),.V 7 (.mv (.t 1)),.V 8 (.len (.t 7)),.W 9 (.call (.c (.fn 463 [])) [.t 6,.t 8]),.V 10 (.ia 1 (.t 5) (.t 9)),.V 11 (.ld none (.t 10)),.V 4 (.asg (.t 11))] [0,4] [0,1000]) .ret)) }
noncomputable def Zji : List (Nat × Callee) := [(463,Zbi)]
def Zrs : List (Nat × ET) := [(5,(.one (.int .i64))),(7,(.one (.int .i64)))]
noncomputable def Zb3 : Callee := Zad Zji Zrs Zqx [.box Zac,.d (.one (.sl (.one (.int .i64))))] [.d (.one (.int .i64))] [.box Zac]
noncomputable def Zbe (a0 : Zac.ty) (a1 : List Int) : Option (Int × Zac.ty) := Zb3.f (a0,a1,())
theorem Zqf (a0 : Zac.ty) (a1 : List Int) : Zbe a0 a1 =
 (Zak a0 (a1.length : Int)).bind fun x1 =>
  if decide (0 ≤ x1.1) then
   (a1[x1.1.toNat]?).bind fun x2 =>
    some (x2,(x1.2.1,x1.2.2.1,x1.2.2.2.1,()))
  else
   none :=
 (mk_f _ _ _ _ _ _ _ 4000).trans (by kernel_rfl)
noncomputable def Ze4 : Callee := Zqo Zbm Zak Zbb Zbe
noncomputable def Zgq (a0 : Zac.ty) : Option (List T_Role.ty × Zac.ty) := Ze4.f (a0,())
theorem Zqj (a0 : Zac.ty) : Zgq a0 = (drF Zbm Zak Zbb Zbe a0).map fun r => (r.2.map toRole,r.1) := rfl
def Zpl : Fn := { np := 1,io := [true],res := [.t 2],own := [false],body :=
 (.seq (.reg false [.V 2 (.asg (.c (.str [])))] [0] [0,1000]) (.seq (.reg false [.V 3 (.mv (.t 0)),.V 4 (.bsl 1 (.str []) 3 [(0,.c (.str [98,111,119])),(1,.c (.str [112,108,97,116,101])),(2,.c (.str [115,116,111,99,107]))]),.W 5 (.call (.c (.fn 557 [])) [.t 3,.t 4]),.V 2 (.asg (.t 5))] [0,2] [0,1000]) .ret)) }
noncomputable def Zh1 : List (Nat × Callee) := [(557,Zcd)]
def Zq0 : List (Nat × ET) := [(4,(.one .str))]
noncomputable def Zcr : Callee := Zad Zh1 Zq0 Zpl [.box Zac] [.d (.one .str)] [.box Zac]
noncomputable def Zce (a0 : Zac.ty) : Option (List UInt8 × Zac.ty) := Zcr.f (a0,())
theorem Zhs (a0 : Zac.ty) : Zce a0 =
 (Zbb a0 [[98,111,119],[112,108,97,116,101],[115,116,111,99,107]]).bind fun x1 =>
  some (x1.1,(x1.2.1,x1.2.2.1,x1.2.2.2.1,())) :=
 (mk_f _ _ _ _ _ _ _ 4000).trans (by kernel_rfl)
def Zke : C :=
 .seq (.seq (.reg false [.V 24 (.mv (.t 0)),.W 25 (.call (.c (.fn 463 [])) [.t 24,.c (.int .i64 24)])] [0,4,5,25] [0,4,5,1000]) (.block 0 (.seq (.reg false [.V 27 (.bin .eql (.t 25) (.c (.int .i64 0))),.V 26 (.asg (.t 27))] [0,4,5,25,26] [0,4,5,1000]) (.cond (.t 26) (.reg false [.V 28 (.mv (.t 0)),.V 29 (.bsl 1 (.int .i64 0) 2 [(0,.c (.int .i64 0)),(1,.c (.int .i64 4))]),.W 30 (.call (.c (.fn 445 [])) [.t 28,.t 29]),.V 31 (.fa 2 (.t 5)),⟨none,true,.sto 1 (.t 31) (.t 30),none,false,[]⟩] [0,4,5] [0,4,5,1000]) (.seq (.reg false [.V 33 (.bin .eql (.t 25) (.c (.int .i64 1))),.V 32 (.asg (.t 33))] [0,4,5,25,32] [0,4,5,1000]) (.cond (.t 32) (.reg false [.V 34 (.mv (.t 0)),.V 35 (.bsl 1 (.str []) 2 [(0,.c (.str [122,122])),(1,.c (.str []))]),.W 36 (.call (.c (.fn 557 [])) [.t 34,.t 35]),.V 37 (.fa 0 (.t 5)),⟨none,true,.sto 1 (.t 37) (.t 36),none,false,[]⟩] [0,4,5] [0,4,5,1000]) (.seq (.reg false [.V 39 (.bin .eql (.t 25) (.c (.int .i64 2))),.V 38 (.asg (.t 39))] [0,4,5,38] [0,4,5,1000]) (.cond (.t 38) (.reg false [.V 40 (.mv (.t 0)),.V 41 (.bsl 1 (.str []) 2 [(0,.c (.str [])),(1,.c (.str [66]))]),.W 42 (.call (.c (.fn 557 [])) [.t 40,.t 41]),.V 43 (.fa 1 (.t 5)),⟨none,true,.sto 1 (.t 43) (.t 42),none,false,[]⟩] [0,4,5] [0,4,5,1000]) .skip)))))))) (.seq (.reg false [.V 44 (.ld (some 3) (.t 5)),⟨none,true,.sto 3 (.t 4) (.t 44),none,false,[]⟩] [0,4] [0,4,1000]) .ret)
def Zkf : Fn := { np := 2,io := [true,false],res := [.cell 4 (some 3)],own := [false],body :=
 (.seq (.reg false [.W 4 (.alloc 3 (.agg [.str [],.str [],.int .i64 0]))] [0,1,4] [0,4,1000]) (.seq (.reg false [.V 6 (.mv (.t 0)),.W 7 (.call (.c (.fn 812 [])) [.t 6]),.V 8 (.mv (.t 0)),.W 9 (.call (.c (.fn 463 [])) [.t 8,.c (.int .i64 3)]),.V 10 (.bin .add (.c (.int .i64 1)) (.t 9)),.V 11 (.build [.str [],.str [],.int .i64 0] [(0,1,.c (.str [108,117,116,104,105,101,114])),(1,1,.t 7),(2,1,.t 10)]),.W 5 (.alloc 3 (.agg [.str [],.str [],.int .i64 0])),⟨none,true,.sto 3 (.t 5) (.t 11),none,false,[]⟩] [0,1,4,5] [0,4,5,1000]) (.seq (.seq (.reg false [.V 12 (.mv (.t 1)),.V 13 (.len (.t 12)),.V 14 (.bin .gtr (.t 13) (.c (.int .i64 0)))] [0,1,4,5,14] [0,4,5,1000]) (.cond (.t 14) (.reg false [.V 15 (.mv (.t 1)),.V 16 (.mv (.t 0)),.V 17 (.mv (.t 1)),.V 18 (.len (.t 17)),.W 19 (.call (.c (.fn 463 [])) [.t 16,.t 18]),.V 20 (.ia 2 (.t 15) (.t 19)),.V 21 (.fa 0 (.t 20)),.V 22 (.ld none (.t 21)),.V 23 (.fa 0 (.t 5)),⟨none,true,.sto 1 (.t 23) (.t 22),none,false,[]⟩] [0,4,5] [0,4,5,1000]) .skip)) (.norm [0,4,5] [0,4,5,1000] Zke)))) }
noncomputable def Zgu : List (Nat × Callee) := [(445,Zb3),(463,Zbi),(557,Zcd),(812,Zcr)]
def Zlm : List (Nat × ET) := [(12,T_Role),(15,T_Role),(17,T_Role),(29,(.one (.int .i64))),(35,(.one .str)),(41,(.one .str))]
noncomputable def Zgg : Callee := Zad Zgu Zlm Zkf [.box Zac,.d (.one (.sl T_Role))] [.d Zaa] [.box Zac]
noncomputable def Ze9 (a0 : Zac.ty) (a1 : List T_Role.ty) : Option (Zaa.ty × Zac.ty) := Zgg.f (a0,a1,())
noncomputable def Zdr  (r0_0 : List Int) (r0_1 : Int) (r0_2 : Int) (r4_0 : List UInt8) (r4_1 : List UInt8) (r4_2 : Int) (r5_0 : List UInt8) (r5_1 : List UInt8) (r5_2 : Int) : Option (Zaa.ty × Zac.ty) :=
 goL Zgu Zlm (vleave Zkf [.box Zac,.d (.one (.sl T_Role))] [.d Zaa] [.box Zac] []) [.c Zke]
  ⟨[(0,.loc 0 0 0),(4,.loc 4 0 0),(5,.loc 5 0 0)],[(0,some (.var 3 (.agg [.sl (.one (.int .u8)) r0_0,.int .i64 r0_1,.int .u64 r0_2]))),(4,some (.var 3 (.agg [.str r4_0,.str r4_1,.int .i64 r4_2]))),(5,some (.var 3 (.agg [.str r5_0,.str r5_1,.int .i64 r5_2]))),(1000,none)]⟩
theorem Zst (a0 : Zac.ty) (a1 : List T_Role.ty) : Ze9 a0 a1 =
 (Zce a0).bind fun x1 =>
  (Zak (x1.2.1,x1.2.2.1,x1.2.2.2.1,()) 3).bind fun x2 =>
   if decide ((a1.length : Int) > 0) then
    (Zak (x2.2.1,x2.2.2.1,x2.2.2.2.1,()) (a1.length : Int)).bind fun x3 =>
     if decide (0 ≤ x3.1) then
      (a1[x3.1.toNat]?).bind fun x4 =>
       Zdr x3.2.1 x3.2.2.1 x3.2.2.2.1 [] [] 0 x4.1 x1.1 (IntKind.i64.wrap (1 + x2.1))
     else
      none
   else
    Zdr x2.2.1 x2.2.2.1 x2.2.2.2.1 [] [] 0 [108,117,116,104,105,101,114] x1.1 (IntKind.i64.wrap (1 + x2.1)) :=
 (mk_f _ _ _ _ _ _ _ 4000).trans (by kernel_rfl)
theorem Zpw  (r0_0 : List Int) (r0_1 : Int) (r0_2 : Int) (r4_0 : List UInt8) (r4_1 : List UInt8) (r4_2 : Int) (r5_0 : List UInt8) (r5_1 : List UInt8) (r5_2 : Int) : Zdr r0_0 r0_1 r0_2 r4_0 r4_1 r4_2 r5_0 r5_1 r5_2 =
 (Zak (r0_0,r0_1,r0_2,()) 24).bind fun x1 =>
  if (x1.1 == 0) then
   (Zbe (x1.2.1,x1.2.2.1,x1.2.2.2.1,()) [0,4]).bind fun x2 =>
    some ((r5_0,r5_1,x2.1,()),(x2.2.1,x2.2.2.1,x2.2.2.2.1,()))
  else
   if (x1.1 == 1) then
    (Zbb (x1.2.1,x1.2.2.1,x1.2.2.2.1,()) [[122,122],[]]).bind fun x3 =>
     some ((x3.1,r5_1,r5_2,()),(x3.2.1,x3.2.2.1,x3.2.2.2.1,()))
   else
    if (x1.1 == 2) then
     (Zbb (x1.2.1,x1.2.2.1,x1.2.2.2.1,()) [[],[66]]).bind fun x4 =>
      some ((r5_0,x4.1,r5_2,()),(x4.2.1,x4.2.2.1,x4.2.2.2.1,()))
    else
     some ((r5_0,r5_1,r5_2,()),(x1.2.1,x1.2.2.1,x1.2.2.2.1,())) :=
 (goL_dn _ _ _ 4000 _ _).trans (by kernel_rfl)
def Zvv : Fn := { np := 1,io := [],res := [.t 2],own := [false],body :=
 (.seq (.reg false [.V 2 (.asg (.c (.bool false)))] [0] []) (.seq (.reg false [.V 3 (.mv (.t 0)),.V 4 (.bin .geq (.t 3) (.c (.int .u8 97))),.V 5 (.mv (.t 4)),.G 6 (.mv (.t 0)) 2 true,.G 7 (.bin .leq (.t 6) (.c (.int .u8 122))) 2 true,.V 8 (.pick (.t 5) (.t 7) (.c (.bool false))),.V 2 (.asg (.t 8))] [2] []) .ret)) }
noncomputable def Zoo : List (Nat × Callee) := []
def Zw4 : List (Nat × ET) := []
noncomputable def Zic : Callee := Zad Zoo Zw4 Zvv [.d (.one (.int .u8))] [.d (.one .bool)] []
noncomputable def Zg2 (a0 : Int) : Option (Bool) := Zic.f (a0,())
theorem Zvt (a0 : Int) : Zg2 a0 =
 if decide (a0 ≥ 97) then
  some (decide (a0 ≤ 122))
 else
  some false :=
 (mk_f _ _ _ _ _ _ _ 4000).trans (by kernel_rfl)
def Zu1 : Fn := { np := 1,io := [],res := [.t 2],own := [false],body :=
 (.seq (.reg false [.V 2 (.asg (.c (.bool false)))] [0] []) (.seq (.reg false [.V 3 (.mv (.t 0)),.V 4 (.bin .geq (.t 3) (.c (.int .u8 48))),.V 5 (.mv (.t 4)),.G 6 (.mv (.t 0)) 2 true,.G 7 (.bin .leq (.t 6) (.c (.int .u8 57))) 2 true,.V 8 (.pick (.t 5) (.t 7) (.c (.bool false))),.V 2 (.asg (.t 8))] [2] []) .ret)) }
noncomputable def Zn8 : List (Nat × Callee) := []
def Zw8 : List (Nat × ET) := []
noncomputable def Zit : Callee := Zad Zn8 Zw8 Zu1 [.d (.one (.int .u8))] [.d (.one .bool)] []
noncomputable def Zk6 (a0 : Int) : Option (Bool) := Zit.f (a0,())
theorem Zvn (a0 : Int) : Zk6 a0 =
 if decide (a0 ≥ 48) then
  some (decide (a0 ≤ 57))
 else
  some false :=
 (mk_f _ _ _ _ _ _ _ 4000).trans (by kernel_rfl)
def Zn1 : C :=
 .seq (.seq (.reg false [.V 17 (.mv (.t 3)),.V 18 (.mv (.t 0)),.V 19 (.lens (.t 18)),.V 20 (.bin .lss (.t 17) (.t 19))] [0,3,20] []) (.cond (.t 20) .skip (.exit 0))) (.seq (.block 1 (.seq (.reg false [.V 23 (.mv (.t 0)),.V 24 (.mv (.t 3)),.V 25 (.ix (.t 23) (.t 24)),.V 26 (.call (.c (.fn 11 [])) [.t 25]),.V 27 (.un .not (.t 26)),.V 28 (.mv (.t 27)),.G 29 (.mv (.t 0)) 5 true,.G 30 (.mv (.t 3)) 5 true,.G 31 (.ix (.t 29) (.t 30)) 5 true,.G 32 (.call (.c (.fn 12 [])) [.t 31]) 5 true,.G 33 (.un .not (.t 32)) 5 true,.V 34 (.pick (.t 28) (.t 33) (.c (.bool false)))] [0,3,34] []) (.cond (.t 34) (.seq (.reg false [.V 2 (.asg (.c (.bool false)))] [2] []) .ret) .skip))) (.reg false [.V 21 (.mv (.t 3)),.V 22 (.bin .add (.t 21) (.c (.int .i64 1))),.V 3 (.asg (.t 22))] [0,3] []))
def Zow : C :=
 .norm [0,3] [] Zn1
def Zn2 : C :=
 .seq (.reg false [.V 2 (.asg (.c (.bool true)))] [2] []) .ret
def Znx : C :=
 .seq (.seq (.reg false [.V 3 (.asg (.c (.int .i64 0)))] [0,3] []) (.block 0 (.loop Zow))) Zn2
def Zir : Fn := { np := 1,io := [],res := [.t 2],own := [false],body :=
 (.seq (.reg false [.V 2 (.asg (.c (.bool false)))] [0] []) (.seq (.seq (.reg false [.V 4 (.mv (.t 0)),.V 5 (.bin .eql (.t 4) (.c (.str []))),.V 6 (.mv (.t 5)),.G 7 (.mv (.t 0)) 2 false,.G 8 (.lens (.t 7)) 2 false,.G 9 (.bin .gtr (.t 8) (.c (.int .i64 10))) 2 false,.V 10 (.pick (.t 6) (.c (.bool true)) (.t 9)),.V 11 (.mv (.t 10)),.G 12 (.mv (.t 0)) 7 false,.G 13 (.ix (.t 12) (.c (.int .i64 0))) 7 false,.G 14 (.call (.c (.fn 11 [])) [.t 13]) 7 false,.G 15 (.un .not (.t 14)) 7 false,.V 16 (.pick (.t 11) (.c (.bool true)) (.t 15))] [0,16] []) (.cond (.t 16) (.seq (.reg false [.V 2 (.asg (.c (.bool false)))] [2] []) .ret) .skip)) (.norm [0] [] Znx))) }
noncomputable def Zf2 : List (Nat × Callee) := [(11,Zic),(12,Zit)]
def Zj1 : List (Nat × ET) := []
noncomputable def Zf4 : Callee := Zad Zf2 Zj1 Zir [.d (.one .str)] [.d (.one .bool)] []
noncomputable def Zfs (a0 : List UInt8) : Option (Bool) := Zf4.f (a0,())
noncomputable def Zor  (v0 : List UInt8) : Option (Bool) :=
 goL Zf2 Zj1 (vleave Zir [.d (.one .str)] [.d (.one .bool)] [] []) [.c Znx]
  ⟨[(0,.str v0)],[]⟩
noncomputable def Zdx  (v0 : List UInt8) (v3 : Int) : Option (Bool) :=
 goL Zf2 Zj1 (vleave Zir [.d (.one .str)] [.d (.one .bool)] [] []) [.c Zn1,.l Zow,.e 0,.c Zn2]
  ⟨[(0,.str v0),(3,.int .i64 v3)],[]⟩
theorem Zw3 (a0 : List UInt8) : Zfs a0 =
 if (a0 == []) then
  some false
 else
  if decide ((a0.length : Int) > 10) then
   some false
  else
   (a0[0]?).bind fun x1 =>
    (Zg2 (x1.toNat : Int)).bind fun x2 =>
     if (!x2) then
      some false
     else
      Zor a0 :=
 (mk_f _ _ _ _ _ _ _ 4000).trans (by kernel_rfl)
theorem Zsl  (v0 : List UInt8) : Zor v0 =
 Zdx v0 0 :=
 (goL_dn _ _ _ 4000 _ _).trans (by kernel_rfl)
theorem Zkn  (v0 : List UInt8) (v3 : Int) : Zdx v0 v3 =
 if decide (v3 < (v0.length : Int)) then
  if decide (0 ≤ v3) then
   (v0[v3.toNat]?).bind fun x1 =>
    (Zg2 (x1.toNat : Int)).bind fun x2 =>
     if (!x2) then
      if decide (0 ≤ v3) then
       (v0[v3.toNat]?).bind fun x3 =>
        (Zk6 (x3.toNat : Int)).bind fun x4 =>
         if (!x4) then
          some false
         else
          Zdx v0 (IntKind.i64.wrap (v3 + 1))
      else
       none
     else
      Zdx v0 (IntKind.i64.wrap (v3 + 1))
  else
   none
 else
  some true :=
 (goL_dn _ _ _ 4000 _ _).trans (by kernel_rfl)
def Zov : C :=
 .seq (.seq (.reg false [.V 6 (.mv (.t 5)),.V 7 (.mv (.t 0)),.V 8 (.len (.t 7)),.V 9 (.bin .lss (.t 6) (.t 8))] [0,1,5,9] []) (.cond (.t 9) .skip (.exit 0))) (.seq (.block 1 (.seq (.reg false [.V 12 (.mv (.t 0)),.V 13 (.mv (.t 5)),.V 14 (.ia 2 (.t 12) (.t 13)),.V 15 (.fa 0 (.t 14)),.V 16 (.ld none (.t 15)),.V 17 (.mv (.t 1)),.V 18 (.bin .eql (.t 16) (.t 17))] [0,1,5,18] []) (.cond (.t 18) (.seq (.reg false [.V 19 (.mv (.t 5)),.V 4 (.asg (.t 19))] [4] []) .ret) .skip))) (.reg false [.V 10 (.mv (.t 5)),.V 11 (.bin .add (.t 10) (.c (.int .i64 1))),.V 5 (.asg (.t 11))] [0,1,5] []))
def Zou : C :=
 .norm [0,1,5] [] Zov
def Zox : C :=
 .seq (.reg false [.V 4 (.asg (.c (.int .i64 (-1))))] [4] []) .ret
def Zoh : Fn := { np := 2,io := [],res := [.t 4],own := [false],body :=
 (.seq (.reg false [.V 4 (.asg (.c (.int .i64 0)))] [0,1] []) (.seq (.seq (.reg false [.V 5 (.asg (.c (.int .i64 0)))] [0,1,5] []) (.block 0 (.loop Zou))) Zox)) }
noncomputable def Zjn : List (Nat × Callee) := []
def Zpx : List (Nat × ET) := [(7,T_Role),(12,T_Role)]
noncomputable def Zd7 : Callee := Zad Zjn Zpx Zoh [.d (.one (.sl T_Role)),.d (.one .str)] [.d (.one (.int .i64))] []
noncomputable def Zd6 (a0 : List T_Role.ty) (a1 : List UInt8) : Option (Int) := Zd7.f (a0,a1,())
noncomputable def Ze6  (v0 : List T_Role.ty) (v1 : List UInt8) (v5 : Int) : Option (Int) :=
 goL Zjn Zpx (vleave Zoh [.d (.one (.sl T_Role)),.d (.one .str)] [.d (.one (.int .i64))] [] []) [.c Zov,.l Zou,.e 0,.c Zox]
  ⟨[(0,.sl T_Role v0),(1,.str v1),(5,.int .i64 v5)],[]⟩
theorem Zv7 (a0 : List T_Role.ty) (a1 : List UInt8) : Zd6 a0 a1 =
 Ze6 a0 a1 0 :=
 (mk_f _ _ _ _ _ _ _ 4000).trans (by kernel_rfl)
theorem Zkd  (v0 : List T_Role.ty) (v1 : List UInt8) (v5 : Int) : Ze6 v0 v1 v5 =
 if decide (v5 < (v0.length : Int)) then
  if decide (0 ≤ v5) then
   (v0[v5.toNat]?).bind fun x1 =>
    if (x1.1 == v1) then
     some v5
    else
     Ze6 v0 v1 (IntKind.i64.wrap (v5 + 1))
  else
   none
 else
  some (-1) :=
 (goL_dn _ _ _ 4000 _ _).trans (by kernel_rfl)
def Znn : C :=
 .seq (.block 5 (.reg false [.V 45 (.mv (.t 5)),.V 46 (.mv (.t 0)),.V 47 (.mv (.t 0)),.V 48 (.mv (.t 7)),.V 49 (.ia 2 (.t 47) (.t 48)),.V 50 (.fa 1 (.t 49)),.V 51 (.ld none (.t 50)),.V 52 (.mv (.t 8)),.V 53 (.ia 1 (.t 51) (.t 52)),.V 54 (.ld none (.t 53)),.V 55 (.call (.c (.fn 740 [])) [.t 46,.t 54]),.V 56 (.ia 1 (.t 45) (.t 55)),⟨none,true,.sto 1 (.t 56) (.c (.bool true)),none,false,[]⟩] [0,1,5,6,7,8] [5])) (.reg false [.V 43 (.mv (.t 8)),.V 44 (.bin .add (.t 43) (.c (.int .i64 1))),.V 8 (.asg (.t 44))] [0,1,5,6,7,8] [5])
def Zmp : C :=
 .seq (.seq (.reg false [.V 24 (.mv (.t 8)),.V 25 (.mv (.t 0)),.V 26 (.mv (.t 7)),.V 27 (.ia 2 (.t 25) (.t 26)),.V 28 (.fa 1 (.t 27)),.V 29 (.ld none (.t 28)),.V 30 (.len (.t 29)),.V 31 (.bin .lss (.t 24) (.t 30)),.V 32 (.mv (.t 31)),.G 33 (.mv (.t 7)) 8 true,.G 34 (.mv (.t 1)) 8 true,.G 35 (.bin .eql (.t 33) (.t 34)) 8 true,.G 36 (.mv (.t 35)) 8 true,.G 37 (.mv (.t 5)) 12 false,.G 38 (.mv (.t 7)) 12 false,.G 39 (.ia 1 (.t 37) (.t 38)) 12 false,.G 40 (.ld none (.t 39)) 12 false,.G 41 (.pick (.t 36) (.c (.bool true)) (.t 40)) 8 true,.V 42 (.pick (.t 32) (.t 41) (.c (.bool false)))] [0,1,5,6,7,8,42] [5]) (.cond (.t 42) .skip (.exit 4))) (.norm [0,1,5,6,7,8] [5] Znn)
def Zhm : C :=
 .norm [0,1,5,6,7,8] [5] Zmp
def Zhf : C :=
 .reg false [.V 22 (.mv (.t 7)),.V 23 (.bin .add (.t 22) (.c (.int .i64 1))),.V 7 (.asg (.t 23))] [0,1,5,6,7] [5]
def Znw : C :=
 .seq (.seq (.reg false [.V 18 (.mv (.t 7)),.V 19 (.mv (.t 0)),.V 20 (.len (.t 19)),.V 21 (.bin .lss (.t 18) (.t 20))] [0,1,5,6,7,21] [5]) (.cond (.t 21) .skip (.exit 2))) (.seq (.block 3 (.seq (.reg false [.V 8 (.asg (.c (.int .i64 0)))] [0,1,5,6,7,8] [5]) (.block 4 (.loop Zhm)))) Zhf)
def Zed : C :=
 .norm [0,1,5,6,7] [5] Znw
def Zem : C :=
 .reg false [.V 16 (.mv (.t 6)),.V 17 (.bin .add (.t 16) (.c (.int .i64 1))),.V 6 (.asg (.t 17))] [0,1,5,6] [5]
def Zm6 : C :=
 .seq (.seq (.reg false [.V 12 (.mv (.t 6)),.V 13 (.mv (.t 0)),.V 14 (.len (.t 13)),.V 15 (.bin .lss (.t 12) (.t 14))] [0,1,5,6,15] [5]) (.cond (.t 15) .skip (.exit 0))) (.seq (.block 1 (.seq (.reg false [.V 7 (.asg (.c (.int .i64 0)))] [0,1,5,6,7] [5]) (.block 2 (.loop Zed)))) Zem)
def Zc4 : C :=
 .norm [0,1,5,6] [5] Zm6
def Zc5 : C :=
 .seq (.reg false [.V 57 (.mv (.t 5)),.W 4 (.asg (.t 57))] [4] [4,5]) .ret
def Zc0 : Fn := { np := 2,io := [],res := [.t 4],own := [false],body :=
 (.seq (.reg false [.W 4 (.asg (.c (.nils 1)))] [0,1] []) (.seq (.reg false [.V 9 (.mv (.t 0)),.V 10 (.len (.t 9)),.V 11 (.mks 1 1 (.bool false) (.t 10) (.t 10)),.W 5 (.asg (.t 11))] [0,1,5] [5]) (.seq (.seq (.reg false [.V 6 (.asg (.c (.int .i64 0)))] [0,1,5,6] [5]) (.block 0 (.loop Zc4))) Zc5))) }
noncomputable def Zcj : List (Nat × Callee) := [(740,Zd7)]
def Zdu : List (Nat × ET) := [(4,(.one .bool)),(5,(.one .bool)),(9,T_Role),(11,(.one .bool)),(13,T_Role),(19,T_Role),(25,T_Role),(29,(.one .str)),(37,(.one .bool)),(45,(.one .bool)),(46,T_Role),(47,T_Role),(51,(.one .str)),(57,(.one .bool))]
noncomputable def Zh2 : Callee := Zad Zcj Zdu Zc0 [.d (.one (.sl T_Role)),.d (.one (.int .i64))] [.d (.one (.sl (.one .bool)))] []
noncomputable def Zlf (a0 : List T_Role.ty) (a1 : Int) : Option (List Bool) := Zh2.f (a0,a1,())
noncomputable def Zc2  (v0 : List T_Role.ty) (v1 : Int) (v5n : Nat) (v6 : Int) (r5 : List Bool) : Option (List Bool) :=
 goL Zcj Zdu (vleave Zc0 [.d (.one (.sl T_Role)),.d (.one (.int .i64))] [.d (.one (.sl (.one .bool)))] [] []) [.c Zm6,.l Zc4,.e 0,.c Zc5]
  ⟨[(0,.sl T_Role v0),(1,.int .i64 v1),(5,.view 5 0 v5n),(6,.int .i64 v6)],[(5,some (.sl (.one .bool) r5))]⟩
noncomputable def Zb6  (v0 : List T_Role.ty) (v1 : Int) (v5n : Nat) (v6 : Int) (v7 : Int) (r5 : List Bool) : Option (List Bool) :=
 goL Zcj Zdu (vleave Zc0 [.d (.one (.sl T_Role)),.d (.one (.int .i64))] [.d (.one (.sl (.one .bool)))] [] []) [.c Znw,.l Zed,.e 2,.e 1,.c Zem,.l Zc4,.e 0,.c Zc5]
  ⟨[(0,.sl T_Role v0),(1,.int .i64 v1),(5,.view 5 0 v5n),(6,.int .i64 v6),(7,.int .i64 v7)],[(5,some (.sl (.one .bool) r5))]⟩
noncomputable def Zcx  (v0 : List T_Role.ty) (v1 : Int) (v5n : Nat) (v6 : Int) (v7 : Int) (v8 : Int) (r5 : List Bool) : Option (List Bool) :=
 goL Zcj Zdu (vleave Zc0 [.d (.one (.sl T_Role)),.d (.one (.int .i64))] [.d (.one (.sl (.one .bool)))] [] []) [.c Zmp,.l Zhm,.e 4,.e 3,.c Zhf,.l Zed,.e 2,.e 1,.c Zem,.l Zc4,.e 0,.c Zc5]
  ⟨[(0,.sl T_Role v0),(1,.int .i64 v1),(5,.view 5 0 v5n),(6,.int .i64 v6),(7,.int .i64 v7),(8,.int .i64 v8)],[(5,some (.sl (.one .bool) r5))]⟩
noncomputable def Zel  (v0 : List T_Role.ty) (v1 : Int) (v5n : Nat) (v6 : Int) (v7 : Int) (v8 : Int) (r5 : List Bool) : Option (List Bool) :=
 goL Zcj Zdu (vleave Zc0 [.d (.one (.sl T_Role)),.d (.one (.int .i64))] [.d (.one (.sl (.one .bool)))] [] []) [.c Znn,.l Zhm,.e 4,.e 3,.c Zhf,.l Zed,.e 2,.e 1,.c Zem,.l Zc4,.e 0,.c Zc5]
  ⟨[(0,.sl T_Role v0),(1,.int .i64 v1),(5,.view 5 0 v5n),(6,.int .i64 v6),(7,.int .i64 v7),(8,.int .i64 v8)],[(5,some (.sl (.one .bool) r5))]⟩
theorem Zvs (a0 : List T_Role.ty) (a1 : Int) : Zlf a0 a1 =
 if decide (0 ≤ (a0.length : Int)) && decide ((a0.length : Int) ≤ (a0.length : Int)) && decide ((a0.length : Int).toNat < lim) then
  Zc2 a0 a1 ((List.replicate ((a0.length : Int).toNat) (false : Bool)).length) 0 (List.replicate ((a0.length : Int).toNat) (false : Bool))
 else
  none :=
 (mk_f _ _ _ _ _ _ _ 4000).trans (by kernel_rfl)
theorem Zi9  (v0 : List T_Role.ty) (v1 : Int) (v5n : Nat) (v6 : Int) (r5 : List Bool) : Zc2 v0 v1 v5n v6 r5 =
 if decide (v6 < (v0.length : Int)) then
  Zb6 v0 v1 v5n v6 0 r5
 else
  some (r5.take v5n) :=
 (goL_dn _ _ _ 4000 _ _).trans (by kernel_rfl)
theorem Zja  (v0 : List T_Role.ty) (v1 : Int) (v5n : Nat) (v6 : Int) (v7 : Int) (r5 : List Bool) : Zb6 v0 v1 v5n v6 v7 r5 =
 if decide (v7 < (v0.length : Int)) then
  Zcx v0 v1 v5n v6 v7 0 r5
 else
  Zc2 v0 v1 v5n (IntKind.i64.wrap (v6 + 1)) r5 :=
 (goL_dn _ _ _ 4000 _ _).trans (by kernel_rfl)
theorem Zi4  (v0 : List T_Role.ty) (v1 : Int) (v5n : Nat) (v6 : Int) (v7 : Int) (v8 : Int) (r5 : List Bool) : Zcx v0 v1 v5n v6 v7 v8 r5 =
 if decide (0 ≤ v7) then
  (v0[v7.toNat]?).bind fun x1 =>
   if decide (v8 < (x1.2.1.length : Int)) then
    if (v7 == v1) then
     Zel v0 v1 v5n v6 v7 v8 r5
    else
     if decide (0 ≤ v7) && decide (v7 < (v5n : Int)) then
      (r5[v7.toNat]?).bind fun x2 =>
       if x2 then
        Zel v0 v1 v5n v6 v7 v8 r5
       else
        Zb6 v0 v1 v5n v6 (IntKind.i64.wrap (v7 + 1)) r5
     else
      none
   else
    Zb6 v0 v1 v5n v6 (IntKind.i64.wrap (v7 + 1)) r5
 else
  none :=
 (goL_dn _ _ _ 4000 _ _).trans (by kernel_rfl)
theorem Zr3  (v0 : List T_Role.ty) (v1 : Int) (v5n : Nat) (v6 : Int) (v7 : Int) (v8 : Int) (r5 : List Bool) : Zel v0 v1 v5n v6 v7 v8 r5 =
 if decide (0 ≤ v7) then
  (v0[v7.toNat]?).bind fun x1 =>
   if decide (0 ≤ v8) then
    (x1.2.1[v8.toNat]?).bind fun x2 =>
     (Zd6 v0 x2).bind fun x3 =>
      if decide (0 ≤ x3) && decide (x3 < (v5n : Int)) then
       (r5[x3.toNat]?).bind fun x4 =>
        Zcx v0 v1 v5n v6 v7 (IntKind.i64.wrap (v8 + 1)) (r5.set x3.toNat true)
      else
       none
   else
    none
 else
  none :=
 (goL_dn _ _ _ 4000 _ _).trans (by kernel_rfl)
def Zm3 : C :=
 .seq (.seq (.reg false [.V 40 (.mv (.t 4)),.V 41 (.mv (.t 0)),.V 42 (.mv (.t 3)),.V 43 (.ia 2 (.t 41) (.t 42)),.V 44 (.fa 1 (.t 43)),.V 45 (.ld none (.t 44)),.V 46 (.len (.t 45)),.V 47 (.bin .lss (.t 40) (.t 46))] [0,3,4,47] []) (.cond (.t 47) .skip (.exit 2))) (.seq (.block 3 (.seq (.reg true [.V 50 (.mv (.t 0)),.V 51 (.mv (.t 0)),.V 52 (.mv (.t 3)),.V 53 (.ia 2 (.t 51) (.t 52)),.V 54 (.fa 1 (.t 53)),.V 55 (.ld none (.t 54)),.V 56 (.mv (.t 4)),.V 57 (.ia 1 (.t 55) (.t 56)),.V 58 (.ld none (.t 57)),.V 59 (.call (.c (.fn 740 [])) [.t 50,.t 58]),.V 60 (.bin .lss (.t 59) (.c (.int .i64 0))),.V 61 (.mv (.t 60)),.G 62 (.mv (.t 4)) 11 false,.G 63 (.bin .gtr (.t 62) (.c (.int .i64 0))) 11 false,.G 64 (.mv (.t 63)) 11 false,.G 65 (.mv (.t 0)) 14 true,.G 66 (.mv (.t 3)) 14 true,.G 67 (.ia 2 (.t 65) (.t 66)) 14 true,.G 68 (.fa 1 (.t 67)) 14 true,.G 69 (.ld none (.t 68)) 14 true,.G 70 (.mv (.t 4)) 14 true,.G 71 (.bin .sub (.t 70) (.c (.int .i64 1))) 14 true,.G 72 (.ia 1 (.t 69) (.t 71)) 14 true,.G 73 (.ld none (.t 72)) 14 true,.G 74 (.mv (.t 0)) 14 true,.G 75 (.mv (.t 3)) 14 true,.G 76 (.ia 2 (.t 74) (.t 75)) 14 true,.G 77 (.fa 1 (.t 76)) 14 true,.G 78 (.ld none (.t 77)) 14 true,.G 79 (.mv (.t 4)) 14 true,.G 80 (.ia 1 (.t 78) (.t 79)) 14 true,.G 81 (.ld none (.t 80)) 14 true,.G 82 (.bin .geq (.t 73) (.t 81)) 14 true,.G 83 (.pick (.t 64) (.t 82) (.c (.bool false))) 11 false,.V 84 (.pick (.t 61) (.c (.bool true)) (.t 83))] [0,3,4,84] []) (.cond (.t 84) (.seq (.reg false [.V 2 (.asg (.c (.bool false)))] [2] []) .ret) .skip))) (.reg false [.V 48 (.mv (.t 4)),.V 49 (.bin .add (.t 48) (.c (.int .i64 1))),.V 4 (.asg (.t 49))] [0,3,4] []))
def Zm2 : C :=
 .norm [0,3,4] [] Zm3
def Zno : C :=
 .seq (.reg false [.V 4 (.asg (.c (.int .i64 0)))] [0,3,4] []) (.block 2 (.loop Zm2))
def Zhn : C :=
 .reg false [.V 13 (.mv (.t 3)),.V 14 (.bin .add (.t 13) (.c (.int .i64 1))),.V 3 (.asg (.t 14))] [0,3] []
def Zmz : C :=
 .seq (.seq (.reg false [.V 9 (.mv (.t 3)),.V 10 (.mv (.t 0)),.V 11 (.len (.t 10)),.V 12 (.bin .lss (.t 9) (.t 11))] [0,3,12] []) (.cond (.t 12) .skip (.exit 0))) (.seq (.block 1 (.seq (.seq (.reg true [.V 15 (.mv (.t 0)),.V 16 (.mv (.t 3)),.V 17 (.ia 2 (.t 15) (.t 16)),.V 18 (.fa 0 (.t 17)),.V 19 (.ld none (.t 18)),.V 20 (.call (.c (.fn 13 [])) [.t 19]),.V 21 (.un .not (.t 20)),.V 22 (.mv (.t 21)),.G 23 (.mv (.t 3)) 7 false,.G 24 (.bin .gtr (.t 23) (.c (.int .i64 0))) 7 false,.G 25 (.mv (.t 24)) 7 false,.G 26 (.mv (.t 0)) 10 true,.G 27 (.mv (.t 3)) 10 true,.G 28 (.bin .sub (.t 27) (.c (.int .i64 1))) 10 true,.G 29 (.ia 2 (.t 26) (.t 28)) 10 true,.G 30 (.fa 0 (.t 29)) 10 true,.G 31 (.ld none (.t 30)) 10 true,.G 32 (.mv (.t 0)) 10 true,.G 33 (.mv (.t 3)) 10 true,.G 34 (.ia 2 (.t 32) (.t 33)) 10 true,.G 35 (.fa 0 (.t 34)) 10 true,.G 36 (.ld none (.t 35)) 10 true,.G 37 (.bin .geq (.t 31) (.t 36)) 10 true,.G 38 (.pick (.t 25) (.t 37) (.c (.bool false))) 7 false,.V 39 (.pick (.t 22) (.c (.bool true)) (.t 38))] [0,3,39] []) (.cond (.t 39) (.seq (.reg false [.V 2 (.asg (.c (.bool false)))] [2] []) .ret) .skip)) (.norm [0,3] [] Zno))) Zhn)
def Zer : C :=
 .norm [0,3] [] Zmz
def Znp : C :=
 .seq (.seq (.reg false [.V 85 (.mv (.t 5)),.V 86 (.mv (.t 0)),.V 87 (.len (.t 86)),.V 88 (.bin .lss (.t 85) (.t 87))] [0,5,88] []) (.cond (.t 88) .skip (.exit 4))) (.seq (.block 5 (.seq (.reg false [.V 91 (.mv (.t 0)),.V 92 (.mv (.t 5)),.V 93 (.call (.c (.fn 955 [])) [.t 91,.t 92]),.V 94 (.mv (.t 5)),.V 95 (.ia 1 (.t 93) (.t 94)),.V 96 (.ld none (.t 95))] [0,5,96] []) (.cond (.t 96) (.seq (.reg false [.V 2 (.asg (.c (.bool false)))] [2] []) .ret) .skip))) (.reg false [.V 89 (.mv (.t 5)),.V 90 (.bin .add (.t 89) (.c (.int .i64 1))),.V 5 (.asg (.t 90))] [0,5] []))
def Zm4 : C :=
 .norm [0,5] [] Znp
def Zm0 : C :=
 .seq (.reg false [.V 2 (.asg (.c (.bool true)))] [2] []) .ret
def Zex : C :=
 .seq (.seq (.reg false [.V 5 (.asg (.c (.int .i64 0)))] [0,5] []) (.block 4 (.loop Zm4))) Zm0
def Zc7 : Fn := { np := 1,io := [],res := [.t 2],own := [false],body :=
 (.seq (.reg false [.V 2 (.asg (.c (.bool false)))] [0] []) (.seq (.seq (.reg false [.V 6 (.mv (.t 0)),.V 7 (.len (.t 6)),.V 8 (.bin .gtr (.t 7) (.c (.int .i64 12)))] [0,8] []) (.cond (.t 8) (.seq (.reg false [.V 2 (.asg (.c (.bool false)))] [2] []) .ret) .skip)) (.seq (.seq (.reg false [.V 3 (.asg (.c (.int .i64 0)))] [0,3] []) (.block 0 (.loop Zer))) Zex))) }
noncomputable def Zck : List (Nat × Callee) := [(13,Zf4),(740,Zd7),(955,Zh2)]
def Zdp : List (Nat × ET) := [(6,T_Role),(10,T_Role),(15,T_Role),(26,T_Role),(32,T_Role),(41,T_Role),(45,(.one .str)),(50,T_Role),(51,T_Role),(55,(.one .str)),(65,T_Role),(69,(.one .str)),(74,T_Role),(78,(.one .str)),(86,T_Role),(91,T_Role),(93,(.one .bool))]
noncomputable def Zim : Callee := Zad Zck Zdp Zc7 [.d (.one (.sl T_Role))] [.d (.one .bool)] []
noncomputable def Zld (a0 : List T_Role.ty) : Option (Bool) := Zim.f (a0,())
noncomputable def Zbc  (v0 : List T_Role.ty) (v3 : Int) : Option (Bool) :=
 goL Zck Zdp (vleave Zc7 [.d (.one (.sl T_Role))] [.d (.one .bool)] [] []) [.c Zmz,.l Zer,.e 0,.c Zex]
  ⟨[(0,.sl T_Role v0),(3,.int .i64 v3)],[]⟩
noncomputable def Zg6  (v0 : List T_Role.ty) (v3 : Int) : Option (Bool) :=
 goL Zck Zdp (vleave Zc7 [.d (.one (.sl T_Role))] [.d (.one .bool)] [] []) [.c Zno,.e 1,.c Zhn,.l Zer,.e 0,.c Zex]
  ⟨[(0,.sl T_Role v0),(3,.int .i64 v3)],[]⟩
noncomputable def Zbg  (v0 : List T_Role.ty) (v5 : Int) : Option (Bool) :=
 goL Zck Zdp (vleave Zc7 [.d (.one (.sl T_Role))] [.d (.one .bool)] [] []) [.c Znp,.l Zm4,.e 4,.c Zm0]
  ⟨[(0,.sl T_Role v0),(5,.int .i64 v5)],[]⟩
noncomputable def Zbh  (v0 : List T_Role.ty) (v3 : Int) (v4 : Int) : Option (Bool) :=
 goL Zck Zdp (vleave Zc7 [.d (.one (.sl T_Role))] [.d (.one .bool)] [] []) [.c Zm3,.l Zm2,.e 2,.e 1,.c Zhn,.l Zer,.e 0,.c Zex]
  ⟨[(0,.sl T_Role v0),(3,.int .i64 v3),(4,.int .i64 v4)],[]⟩
theorem Zu8 (a0 : List T_Role.ty) : Zld a0 =
 if decide ((a0.length : Int) > 12) then
  some false
 else
  Zbc a0 0 :=
 (mk_f _ _ _ _ _ _ _ 4000).trans (by kernel_rfl)
theorem Zi6  (v0 : List T_Role.ty) (v3 : Int) : Zbc v0 v3 =
 if decide (v3 < (v0.length : Int)) then
  if decide (0 ≤ v3) then
   (v0[v3.toNat]?).bind fun x1 =>
    (Zfs x1.1).bind fun x2 =>
     if (!x2) then
      some false
     else
      if decide (v3 > 0) then
       if decide (0 ≤ IntKind.i64.wrap (v3 - 1)) then
        (v0[(IntKind.i64.wrap (v3 - 1)).toNat]?).bind fun x3 =>
         if decide (0 ≤ v3) then
          (v0[v3.toNat]?).bind fun x4 =>
           if (!Op.bytesLess x3.1 x4.1) then
            some false
           else
            Zg6 v0 v3
         else
          none
       else
        none
      else
       Zg6 v0 v3
  else
   none
 else
  Zbg v0 0 :=
 (goL_dn _ _ _ 4000 _ _).trans (by kernel_rfl)
theorem Zrx  (v0 : List T_Role.ty) (v3 : Int) : Zg6 v0 v3 =
 Zbh v0 v3 0 :=
 (goL_dn _ _ _ 4000 _ _).trans (by kernel_rfl)
theorem Zix  (v0 : List T_Role.ty) (v5 : Int) : Zbg v0 v5 =
 if decide (v5 < (v0.length : Int)) then
  (Zlf v0 v5).bind fun x1 =>
   if decide (0 ≤ v5) then
    (x1[v5.toNat]?).bind fun x2 =>
     if x2 then
      some false
     else
      Zbg v0 (IntKind.i64.wrap (v5 + 1))
   else
    none
 else
  some true :=
 (goL_dn _ _ _ 4000 _ _).trans (by kernel_rfl)
theorem Zje  (v0 : List T_Role.ty) (v3 : Int) (v4 : Int) : Zbh v0 v3 v4 =
 if decide (0 ≤ v3) then
  (v0[v3.toNat]?).bind fun x1 =>
   if decide (v4 < (x1.2.1.length : Int)) then
    if decide (0 ≤ v3) then
     (v0[v3.toNat]?).bind fun x2 =>
      if decide (0 ≤ v4) then
       (x2.2.1[v4.toNat]?).bind fun x3 =>
        (Zd6 v0 x3).bind fun x4 =>
         if decide (x4 < 0) then
          some false
         else
          if decide (v4 > 0) then
           if decide (0 ≤ v3) then
            (v0[v3.toNat]?).bind fun x5 =>
             if decide (0 ≤ IntKind.i64.wrap (v4 - 1)) then
              (x5.2.1[(IntKind.i64.wrap (v4 - 1)).toNat]?).bind fun x6 =>
               if decide (0 ≤ v3) then
                (v0[v3.toNat]?).bind fun x7 =>
                 if decide (0 ≤ v4) then
                  (x7.2.1[v4.toNat]?).bind fun x8 =>
                   if (!Op.bytesLess x6 x8) then
                    some false
                   else
                    Zbh v0 v3 (IntKind.i64.wrap (v4 + 1))
                 else
                  none
               else
                none
             else
              none
           else
            none
          else
           Zbh v0 v3 (IntKind.i64.wrap (v4 + 1))
      else
       none
    else
     none
   else
    Zbc v0 (IntKind.i64.wrap (v3 + 1))
 else
  none :=
 (goL_dn _ _ _ 4000 _ _).trans (by kernel_rfl)
def Zzx : Fn := { np := 3,io := [],res := [.t 6],own := [false],body :=
 (.seq (.reg false [.V 6 (.asg (.c (.bool false)))] [0,1,2] []) (.seq (.reg false [.V 7 (.mv (.t 0)),.V 8 (.mv (.t 1)),.V 9 (.bin .geq (.t 7) (.t 8)),.V 10 (.mv (.t 9)),.G 11 (.mv (.t 0)) 3 true,.G 12 (.mv (.t 2)) 3 true,.G 13 (.bin .leq (.t 11) (.t 12)) 3 true,.V 14 (.pick (.t 10) (.t 13) (.c (.bool false))),.V 6 (.asg (.t 14))] [6] []) .ret)) }
noncomputable def Zsw : List (Nat × Callee) := []
def Z1c : List (Nat × ET) := []
noncomputable def Zne : Callee := Zad Zsw Z1c Zzx [.d (.one (.int .i64)),.d (.one (.int .i64)),.d (.one (.int .i64))] [.d (.one .bool)] []
noncomputable def Zwl (a0 : Int) (a1 : Int) (a2 : Int) : Option (Bool) := Zne.f (a0,a1,a2,())
theorem Zzs (a0 : Int) (a1 : Int) (a2 : Int) : Zwl a0 a1 a2 =
 if decide (a0 ≥ a1) then
  some (decide (a0 ≤ a2))
 else
  some false :=
 (mk_f _ _ _ _ _ _ _ 4000).trans (by kernel_rfl)
def Zt9 : Fn := { np := 1,io := [],res := [.t 2],own := [false],body :=
 (.seq (.reg false [.V 2 (.asg (.c (.bool false)))] [0] []) (.seq (.reg false [.V 3 (.mv (.t 0)),.V 4 (.call (.c (.fn 1 [])) [.t 3,.c (.int .i64 1),.c (.int .i64 3)]),.V 2 (.asg (.t 4))] [2] []) .ret)) }
noncomputable def Zmr : List (Nat × Callee) := [(1,Zne)]
def Zvj : List (Nat × ET) := []
noncomputable def Zhj : Callee := Zad Zmr Zvj Zt9 [.d (.one (.int .i64))] [.d (.one .bool)] []
noncomputable def Zpi (a0 : Int) : Option (Bool) := Zhj.f (a0,())
theorem Ztx (a0 : Int) : Zpi a0 =
 (Zwl a0 1 3).bind fun x1 =>
  some x1 :=
 (mk_f _ _ _ _ _ _ _ 4000).trans (by kernel_rfl)
def Zx3 : Fn := { np := 2,io := [],res := [.t 4],own := [false],body :=
 (.seq (.reg false [.V 4 (.asg (.c (.bool false)))] [0,1] []) (.seq (.reg false [.V 5 (.mv (.t 0)),.V 6 (.mv (.t 1)),.V 7 (.nilck (.t 6)),.V 8 (.fa 0 (.t 7)),.V 9 (.ld none (.t 8)),.V 10 (.call (.c (.fn 740 [])) [.t 5,.t 9]),.V 11 (.bin .geq (.t 10) (.c (.int .i64 0))),.V 12 (.mv (.t 11)),.G 13 (.mv (.t 1)) 7 true,.G 14 (.nilck (.t 13)) 7 true,.G 15 (.fa 1 (.t 14)) 7 true,.G 16 (.ld none (.t 15)) 7 true,.G 17 (.call (.c (.fn 13 [])) [.t 16]) 7 true,.V 18 (.pick (.t 12) (.t 17) (.c (.bool false))),.V 19 (.mv (.t 18)),.G 20 (.mv (.t 1)) 14 true,.G 21 (.nilck (.t 20)) 14 true,.G 22 (.fa 2 (.t 21)) 14 true,.G 23 (.ld none (.t 22)) 14 true,.G 24 (.call (.c (.fn 742 [])) [.t 23]) 14 true,.V 25 (.pick (.t 19) (.t 24) (.c (.bool false))),.V 4 (.asg (.t 25))] [4] []) .ret)) }
noncomputable def Zrh : List (Nat × Callee) := [(13,Zf4),(740,Zd7),(742,Zhj)]
def Zzp : List (Nat × ET) := [(5,T_Role)]
noncomputable def Zg3 : Callee := Zad Zrh Zzp Zx3 [.d (.one (.sl T_Role)),.p Zaa] [.d (.one .bool)] []
noncomputable def Zj7 (a0 : List T_Role.ty) (a1 : Zaa.ty) : Option (Bool) := Zg3.f (a0,a1,())
theorem Zyh (a0 : List T_Role.ty) (a1 : Zaa.ty) : Zj7 a0 a1 =
 (Zd6 a0 a1.1).bind fun x1 =>
  if decide (x1 ≥ 0) then
   (Zfs a1.2.1).bind fun x2 =>
    if x2 then
     (Zpi a1.2.2.1).bind fun x3 =>
      some x3
    else
     some false
  else
   some false :=
 (mk_f _ _ _ _ _ _ _ 4000).trans (by kernel_rfl)
def Zt0 : Fn := { np := 2,io := [],res := [.t 4],own := [false],body :=
 (.seq (.reg false [.V 4 (.asg (.c (.bool false)))] [0,1] []) (.seq (.seq (.reg true [.V 5 (.mv (.t 0)),.V 6 (.nilck (.t 5)),.V 7 (.fa 0 (.t 6)),.V 8 (.ld none (.t 7)),.V 9 (.mv (.t 1)),.V 10 (.nilck (.t 9)),.V 11 (.fa 0 (.t 10)),.V 12 (.ld none (.t 11)),.V 13 (.bin .neq (.t 8) (.t 12))] [0,1,13] []) (.cond (.t 13) (.seq (.reg true [.V 14 (.mv (.t 0)),.V 15 (.nilck (.t 14)),.V 16 (.fa 0 (.t 15)),.V 17 (.ld none (.t 16)),.V 18 (.mv (.t 1)),.V 19 (.nilck (.t 18)),.V 20 (.fa 0 (.t 19)),.V 21 (.ld none (.t 20)),.V 22 (.bin .lss (.t 17) (.t 21)),.V 4 (.asg (.t 22))] [4] []) .ret) .skip)) (.seq (.seq (.reg true [.V 23 (.mv (.t 0)),.V 24 (.nilck (.t 23)),.V 25 (.fa 1 (.t 24)),.V 26 (.ld none (.t 25)),.V 27 (.mv (.t 1)),.V 28 (.nilck (.t 27)),.V 29 (.fa 1 (.t 28)),.V 30 (.ld none (.t 29)),.V 31 (.bin .neq (.t 26) (.t 30))] [0,1,31] []) (.cond (.t 31) (.seq (.reg true [.V 32 (.mv (.t 0)),.V 33 (.nilck (.t 32)),.V 34 (.fa 1 (.t 33)),.V 35 (.ld none (.t 34)),.V 36 (.mv (.t 1)),.V 37 (.nilck (.t 36)),.V 38 (.fa 1 (.t 37)),.V 39 (.ld none (.t 38)),.V 40 (.bin .lss (.t 35) (.t 39)),.V 4 (.asg (.t 40))] [4] []) .ret) .skip)) (.seq (.reg true [.V 41 (.mv (.t 0)),.V 42 (.nilck (.t 41)),.V 43 (.fa 2 (.t 42)),.V 44 (.ld none (.t 43)),.V 45 (.mv (.t 1)),.V 46 (.nilck (.t 45)),.V 47 (.fa 2 (.t 46)),.V 48 (.ld none (.t 47)),.V 49 (.bin .lss (.t 44) (.t 48)),.V 4 (.asg (.t 49))] [4] []) .ret)))) }
noncomputable def Zna : List (Nat × Callee) := []
def Zv0 : List (Nat × ET) := []
noncomputable def Zek : Callee := Zad Zna Zv0 Zt0 [.p Zaa,.p Zaa] [.d (.one .bool)] []
noncomputable def Zf7 (a0 : Zaa.ty) (a1 : Zaa.ty) : Option (Bool) := Zek.f (a0,a1,())
theorem Zt3 (a0 : Zaa.ty) (a1 : Zaa.ty) : Zf7 a0 a1 =
 if (!(a0.1 == a1.1)) then
  some (Op.bytesLess a0.1 a1.1)
 else
  if (!(a0.2.1 == a1.2.1)) then
   some (Op.bytesLess a0.2.1 a1.2.1)
  else
   some (decide (a0.2.2.1 < a1.2.2.1)) :=
 (mk_f _ _ _ _ _ _ _ 4000).trans (by kernel_rfl)
def Zrk : C :=
 .seq (.seq (.reg false [.V 14 (.mv (.t 5)),.V 15 (.mv (.t 1)),.V 16 (.len (.t 15)),.V 17 (.bin .lss (.t 14) (.t 16))] [0,1,5,17] []) (.cond (.t 17) .skip (.exit 0))) (.seq (.block 1 (.seq (.reg true [.V 20 (.mv (.t 0)),.V 21 (.mv (.t 1)),.V 22 (.mv (.t 5)),.V 23 (.ia 3 (.t 21) (.t 22)),.V 24 (.call (.c (.fn 952 [])) [.t 20,.t 23]),.V 25 (.un .not (.t 24)),.V 26 (.mv (.t 25)),.G 27 (.mv (.t 5)) 6 false,.G 28 (.bin .gtr (.t 27) (.c (.int .i64 0))) 6 false,.G 29 (.mv (.t 28)) 6 false,.G 30 (.mv (.t 1)) 9 true,.G 31 (.mv (.t 5)) 9 true,.G 32 (.bin .sub (.t 31) (.c (.int .i64 1))) 9 true,.G 33 (.ia 3 (.t 30) (.t 32)) 9 true,.G 34 (.mv (.t 1)) 9 true,.G 35 (.mv (.t 5)) 9 true,.G 36 (.ia 3 (.t 34) (.t 35)) 9 true,.G 37 (.call (.c (.fn 953 [])) [.t 33,.t 36]) 9 true,.G 38 (.un .not (.t 37)) 9 true,.G 39 (.pick (.t 29) (.t 38) (.c (.bool false))) 6 false,.V 40 (.pick (.t 26) (.c (.bool true)) (.t 39))] [0,1,5,40] []) (.cond (.t 40) (.seq (.reg false [.V 4 (.asg (.c (.bool false)))] [4] []) .ret) .skip))) (.reg false [.V 18 (.mv (.t 5)),.V 19 (.bin .add (.t 18) (.c (.int .i64 1))),.V 5 (.asg (.t 19))] [0,1,5] []))
def Zq6 : C :=
 .norm [0,1,5] [] Zrk
def Zq3 : C :=
 .seq (.reg false [.V 4 (.asg (.c (.bool true)))] [4] []) .ret
def Zq9 : C :=
 .seq (.seq (.reg false [.V 5 (.asg (.c (.int .i64 0)))] [0,1,5] []) (.block 0 (.loop Zq6))) Zq3
def Zlb : Fn := { np := 2,io := [],res := [.t 4],own := [false],body :=
 (.seq (.reg false [.V 4 (.asg (.c (.bool false)))] [0,1] []) (.seq (.seq (.reg false [.V 6 (.mv (.t 0)),.V 7 (.call (.c (.fn 954 [])) [.t 6]),.V 8 (.un .not (.t 7)),.V 9 (.mv (.t 8)),.G 10 (.mv (.t 1)) 3 false,.G 11 (.len (.t 10)) 3 false,.G 12 (.bin .gtr (.t 11) (.c (.int .i64 48))) 3 false,.V 13 (.pick (.t 9) (.c (.bool true)) (.t 12))] [0,1,13] []) (.cond (.t 13) (.seq (.reg false [.V 4 (.asg (.c (.bool false)))] [4] []) .ret) .skip)) (.norm [0,1] [] Zq9))) }
noncomputable def Zil : List (Nat × Callee) := [(952,Zg3),(953,Zek),(954,Zim)]
def Znj : List (Nat × ET) := [(6,T_Role),(10,Zaa),(15,Zaa),(20,T_Role),(21,Zaa),(30,Zaa),(34,Zaa)]
noncomputable def Znq : Callee := Zad Zil Znj Zlb [.d (.one (.sl T_Role)),.d (.one (.sl Zaa))] [.d (.one .bool)] []
noncomputable def Zqn (a0 : List T_Role.ty) (a1 : List Zaa.ty) : Option (Bool) := Znq.f (a0,a1,())
noncomputable def Zrj  (v0 : List T_Role.ty) (v1 : List Zaa.ty) : Option (Bool) :=
 goL Zil Znj (vleave Zlb [.d (.one (.sl T_Role)),.d (.one (.sl Zaa))] [.d (.one .bool)] [] []) [.c Zq9]
  ⟨[(0,.sl T_Role v0),(1,.sl Zaa v1)],[]⟩
noncomputable def Zb1  (v0 : List T_Role.ty) (v1 : List Zaa.ty) (v5 : Int) : Option (Bool) :=
 goL Zil Znj (vleave Zlb [.d (.one (.sl T_Role)),.d (.one (.sl Zaa))] [.d (.one .bool)] [] []) [.c Zrk,.l Zq6,.e 0,.c Zq3]
  ⟨[(0,.sl T_Role v0),(1,.sl Zaa v1),(5,.int .i64 v5)],[]⟩
theorem Zzq (a0 : List T_Role.ty) (a1 : List Zaa.ty) : Zqn a0 a1 =
 (Zld a0).bind fun x1 =>
  if (!x1) then
   some false
  else
   if decide ((a1.length : Int) > 48) then
    some false
   else
    Zrj a0 a1 :=
 (mk_f _ _ _ _ _ _ _ 4000).trans (by kernel_rfl)
theorem Zvr  (v0 : List T_Role.ty) (v1 : List Zaa.ty) : Zrj v0 v1 =
 Zb1 v0 v1 0 :=
 (goL_dn _ _ _ 4000 _ _).trans (by kernel_rfl)
theorem Zns  (v0 : List T_Role.ty) (v1 : List Zaa.ty) (v5 : Int) : Zb1 v0 v1 v5 =
 if decide (v5 < (v1.length : Int)) then
  if decide (0 ≤ v5) then
   (v1[v5.toNat]?).bind fun x1 =>
    (Zj7 v0 x1).bind fun x2 =>
     if (!x2) then
      some false
     else
      if decide (v5 > 0) then
       if decide (0 ≤ IntKind.i64.wrap (v5 - 1)) then
        (v1[(IntKind.i64.wrap (v5 - 1)).toNat]?).bind fun x3 =>
         if decide (0 ≤ v5) then
          (v1[v5.toNat]?).bind fun x4 =>
           (Zf7 x3 x4).bind fun x5 =>
            if (!x5) then
             some false
            else
             Zb1 v0 v1 (IntKind.i64.wrap (v5 + 1))
         else
          none
       else
        none
      else
       Zb1 v0 v1 (IntKind.i64.wrap (v5 + 1))
  else
   none
 else
  some true :=
 (goL_dn _ _ _ 4000 _ _).trans (by kernel_rfl)
def Znv : C :=
 .seq (.seq (.reg false [.V 17 (.mv (.t 8)),.V 18 (.mv (.t 1)),.V 19 (.len (.t 18)),.V 20 (.bin .lss (.t 17) (.t 19)),.V 21 (.mv (.t 20)),.G 22 (.mv (.t 1)) 4 true,.G 23 (.mv (.t 8)) 4 true,.G 24 (.ia 3 (.t 22) (.t 23)) 4 true,.G 25 (.call (.c (.fn 953 [])) [.t 24,.t 5]) 4 true,.V 26 (.pick (.t 21) (.t 25) (.c (.bool false)))] [1,5,8,26] [5]) (.cond (.t 26) .skip (.exit 0))) (.block 1 (.reg false [.V 27 (.mv (.t 8)),.V 28 (.bin .add (.t 27) (.c (.int .i64 1))),.V 8 (.asg (.t 28))] [1,5,8] [5]))
def Zm7 : C :=
 .norm [1,5,8] [5] Znv
def Zms : C :=
 .seq (.seq (.reg false [.V 41 (.mv (.t 1)),.V 42 (.len (.t 41)),.V 43 (.bin .eql (.t 42) (.c (.int .i64 48)))] [1,5,8,43] [5]) (.cond (.t 43) (.seq (.reg false [.W 6 (.asg (.c (.nils 3))),.V 7 (.asg (.c (.int .i64 5)))] [6,7] [6]) .ret) .skip)) (.seq (.reg false [.V 44 (.bsl 3 (.agg [.str [],.str [],.int .i64 0]) 0 []),.V 45 (.mv (.t 1)),.V 46 (.mv (.t 8)),.V 47 (.slc 3 (.t 45) none (some (.t 46))),.W 48 (.app 3 40 (.t 44) (.t 47)),.W 9 (.asg (.t 48))] [1,5,8,9] [5,9]) (.seq (.reg false [.V 49 (.mv (.t 9)),.V 50 (.ld (some 3) (.t 5)),.V 51 (.bsl 3 (.agg [.str [],.str [],.int .i64 0]) 1 [(0,.t 50)]),.W 52 (.app 3 40 (.t 49) (.t 51)),.W 9 (.asg (.t 52))] [1,8,9] [9]) (.seq (.reg false [.V 53 (.mv (.t 9)),.V 54 (.mv (.t 1)),.V 55 (.mv (.t 8)),.V 56 (.slc 3 (.t 54) (some (.t 55)) none),.W 57 (.app 3 40 (.t 53) (.t 56)),.W 6 (.asg (.t 57)),.V 7 (.asg (.c (.int .i64 0)))] [6,7] [6]) .ret)))
def Zmq : C :=
 .seq (.seq (.reg true [.V 29 (.mv (.t 8)),.V 30 (.mv (.t 1)),.V 31 (.len (.t 30)),.V 32 (.bin .lss (.t 29) (.t 31)),.V 33 (.mv (.t 32)),.G 34 (.mv (.t 1)) 4 true,.G 35 (.mv (.t 8)) 4 true,.G 36 (.ia 3 (.t 34) (.t 35)) 4 true,.G 37 (.ld (some 3) (.t 36)) 4 true,.G 38 (.ld (some 3) (.t 5)) 4 true,.G 39 (.eqs false [.s,.s,.i] (.t 37) (.t 38)) 4 true,.V 40 (.pick (.t 33) (.t 39) (.c (.bool false)))] [1,5,8,40] [5]) (.cond (.t 40) (.seq (.reg false [.W 6 (.asg (.c (.nils 3))),.V 7 (.asg (.c (.int .i64 4)))] [6,7] [6]) .ret) .skip)) (.norm [1,5,8] [5] Zms)
def Znt : C :=
 .norm [1,5,8] [5] Zmq
def Zei : Fn := { np := 3,io := [],res := [.t 6,.t 7],own := [true,false],body :=
 (.seq (.reg false [.W 5 (.box 3 (.t 2)),.W 6 (.asg (.c (.nils 3))),.V 7 (.asg (.c (.int .i64 0)))] [0,1,5] [5]) (.seq (.seq (.reg false [.V 10 (.mv (.t 0)),.V 11 (.mv (.t 1)),.V 12 (.call (.c (.fn 739 [])) [.t 10,.t 11]),.V 13 (.un .not (.t 12))] [0,1,5,13] [5]) (.cond (.t 13) (.seq (.reg false [.W 6 (.asg (.c (.nils 3))),.V 7 (.asg (.c (.int .i64 1)))] [6,7] [6]) .ret) .skip)) (.seq (.seq (.reg false [.V 14 (.mv (.t 0)),.V 15 (.call (.c (.fn 952 [])) [.t 14,.t 5]),.V 16 (.un .not (.t 15))] [1,5,16] [5]) (.cond (.t 16) (.seq (.reg false [.W 6 (.asg (.c (.nils 3))),.V 7 (.asg (.c (.int .i64 2)))] [6,7] [6]) .ret) .skip)) (.seq (.reg false [.V 8 (.asg (.c (.int .i64 0)))] [1,5,8] [5]) (.seq (.block 0 (.loop Zm7)) Znt))))) }
noncomputable def Zdz : List (Nat × Callee) := [(739,Znq),(952,Zg3),(953,Zek)]
def Ze8 : List (Nat × ET) := [(6,Zaa),(9,Zaa),(10,T_Role),(11,Zaa),(14,T_Role),(18,Zaa),(22,Zaa),(30,Zaa),(34,Zaa),(41,Zaa),(44,Zaa),(45,Zaa),(47,Zaa),(48,Zaa),(49,Zaa),(51,Zaa),(52,Zaa),(53,Zaa),(54,Zaa),(56,Zaa),(57,Zaa)]
noncomputable def Ziw : Callee := Zad Zdz Ze8 Zei [.d (.one (.sl T_Role)),.d (.one (.sl Zaa)),.d Zaa] [.tok Zaa,.d (.one (.int .i64))] []
noncomputable def Zg1 (a0 : List T_Role.ty) (a1 : List Zaa.ty) (a2 : Zaa.ty) : Option (List Zaa.ty × Int) := Ziw.f (a0,a1,a2,())
noncomputable def Zeo  (v1 : List Zaa.ty) (v8 : Int) (r5_0 : List UInt8) (r5_1 : List UInt8) (r5_2 : Int) : Option (List Zaa.ty × Int) :=
 goL Zdz Ze8 (vleave Zei [.d (.one (.sl T_Role)),.d (.one (.sl Zaa)),.d Zaa] [.tok Zaa,.d (.one (.int .i64))] [] []) [.c Znv,.l Zm7,.e 0,.c Znt]
  ⟨[(1,.sl Zaa v1),(5,.loc 5 0 0),(8,.int .i64 v8)],[(5,some (.var 3 (.agg [.str r5_0,.str r5_1,.int .i64 r5_2])))]⟩
noncomputable def Zeh  (v1 : List Zaa.ty) (v8 : Int) (r5_0 : List UInt8) (r5_1 : List UInt8) (r5_2 : Int) : Option (List Zaa.ty × Int) :=
 goL Zdz Ze8 (vleave Zei [.d (.one (.sl T_Role)),.d (.one (.sl Zaa)),.d Zaa] [.tok Zaa,.d (.one (.int .i64))] [] []) [.c Zmq]
  ⟨[(1,.sl Zaa v1),(5,.loc 5 0 0),(8,.int .i64 v8)],[(5,some (.var 3 (.agg [.str r5_0,.str r5_1,.int .i64 r5_2])))]⟩
noncomputable def Zet  (v1 : List Zaa.ty) (v8 : Int) (r5_0 : List UInt8) (r5_1 : List UInt8) (r5_2 : Int) : Option (List Zaa.ty × Int) :=
 goL Zdz Ze8 (vleave Zei [.d (.one (.sl T_Role)),.d (.one (.sl Zaa)),.d Zaa] [.tok Zaa,.d (.one (.int .i64))] [] []) [.c Zms]
  ⟨[(1,.sl Zaa v1),(5,.loc 5 0 0),(8,.int .i64 v8)],[(5,some (.var 3 (.agg [.str r5_0,.str r5_1,.int .i64 r5_2])))]⟩
theorem Zvw (a0 : List T_Role.ty) (a1 : List Zaa.ty) (a2 : Zaa.ty) : Zg1 a0 a1 a2 =
 (Zqn a0 a1).bind fun x1 =>
  if (!x1) then
   some ([],1)
  else
   (Zj7 a0 a2).bind fun x2 =>
    if (!x2) then
     some ([],2)
    else
     Zeo a1 0 a2.1 a2.2.1 a2.2.2.1 :=
 (mk_f _ _ _ _ _ _ _ 4000).trans (by kernel_rfl)
theorem Zjf  (v1 : List Zaa.ty) (v8 : Int) (r5_0 : List UInt8) (r5_1 : List UInt8) (r5_2 : Int) : Zeo v1 v8 r5_0 r5_1 r5_2 =
 if decide (v8 < (v1.length : Int)) then
  if decide (0 ≤ v8) then
   (v1[v8.toNat]?).bind fun x1 =>
    (Zf7 x1 (r5_0,r5_1,r5_2,())).bind fun x2 =>
     if x2 then
      Zeo v1 (IntKind.i64.wrap (v8 + 1)) r5_0 r5_1 r5_2
     else
      Zeh v1 v8 r5_0 r5_1 r5_2
  else
   none
 else
  Zeh v1 v8 r5_0 r5_1 r5_2 :=
 (goL_dn _ _ _ 4000 _ _).trans (by kernel_rfl)
theorem Zr1  (v1 : List Zaa.ty) (v8 : Int) (r5_0 : List UInt8) (r5_1 : List UInt8) (r5_2 : Int) : Zeh v1 v8 r5_0 r5_1 r5_2 =
 if decide (v8 < (v1.length : Int)) then
  if decide (0 ≤ v8) then
   (v1[v8.toNat]?).bind fun x1 =>
    if ((x1.1 == r5_0) && ((x1.2.1 == r5_1) && (x1.2.2.1 == r5_2))) then
     some ([],4)
    else
     Zet v1 v8 r5_0 r5_1 r5_2
  else
   none
 else
  Zet v1 v8 r5_0 r5_1 r5_2 :=
 (goL_dn _ _ _ 4000 _ _).trans (by kernel_rfl)
theorem Zrl  (v1 : List Zaa.ty) (v8 : Int) (r5_0 : List UInt8) (r5_1 : List UInt8) (r5_2 : Int) : Zet v1 v8 r5_0 r5_1 r5_2 =
 if ((v1.length : Int) == 48) then
  some ([],5)
 else
  if decide (0 ≤ v8) && decide (v8 ≤ (v1.length : Int)) then
   if decide (0 + (v1.take v8.toNat).length < lim) then
    if decide (([] ++ (v1.take v8.toNat)).length + 1 < lim) then
     if decide (0 ≤ v8) && decide (v8 ≤ (v1.length : Int)) then
      if decide (((([] ++ (v1.take v8.toNat)).take (([] ++ (v1.take v8.toNat)).length)) ++ [(r5_0,r5_1,r5_2,())]).length + (v1.drop v8.toNat).length < lim) then
       some ((((((([] ++ (v1.take v8.toNat)).take (([] ++ (v1.take v8.toNat)).length)) ++ [(r5_0,r5_1,r5_2,())]).take (((([] ++ (v1.take v8.toNat)).take (([] ++ (v1.take v8.toNat)).length)) ++ [(r5_0,r5_1,r5_2,())]).length)) ++ (v1.drop v8.toNat)).take (((((([] ++ (v1.take v8.toNat)).take (([] ++ (v1.take v8.toNat)).length)) ++ [(r5_0,r5_1,r5_2,())]).take (((([] ++ (v1.take v8.toNat)).take (([] ++ (v1.take v8.toNat)).length)) ++ [(r5_0,r5_1,r5_2,())]).length)) ++ (v1.drop v8.toNat)).length)),0)
      else
       none
     else
      none
    else
     none
   else
    none
  else
   none :=
 (goL_dn _ _ _ 4000 _ _).trans (by kernel_rfl)
def Zoa : C :=
 .seq (.seq (.reg false [.V 16 (.mv (.t 6)),.V 17 (.bin .gtr (.t 16) (.c (.int .i64 0)))] [0,4,5,6,17] [0,4,5,7,1000,4000005]) (.cond (.t 17) .skip (.exit 0))) (.seq (.block 1 (.seq (.reg false [.V 21 (.mv (.t 4)),.V 22 (.mv (.t 5)),.V 23 (.mv (.t 0)),.V 24 (.mv (.t 4)),.W 25 (.call (.c (.fn 729 [])) [.t 23,.t 24]),.V 26 (.call (.c (.fn 948 [])) [.t 21,.t 22,.t 25]),.V 20 (.mv (.t 26)),.V 27 (.ext (.t 20) 0),.V 28 (.ext (.t 20) 1),.W 7 (.asg (.t 27)),.V 8 (.asg (.t 28))] [0,4,5,6,7,8] [0,4,5,7,1000,4000005]) (.seq (.reg false [.V 29 (.mv (.t 8)),.V 30 (.bin .eql (.t 29) (.c (.int .i64 0)))] [0,4,5,6,7,30] [0,4,5,7,1000,4000005]) (.cond (.t 30) (.reg false [.V 31 (.mv (.t 7)),.W 5 (.asg (.t 31))] [0,4,5,6] [0,4,5,7,1000,4000005]) .skip)))) (.reg false [.V 18 (.mv (.t 6)),.V 19 (.bin .sub (.t 18) (.c (.int .i64 1))),.V 6 (.asg (.t 19))] [0,4,5,6] [0,4,5,7,1000,4000005]))
def Zn5 : C :=
 .opn 7000005 (.norm [0,4,5,6] [0,4,1000,4000005] Zoa)
def Znz : C :=
 .seq (.block 4 (.reg true [.V 58 (.mv (.t 5)),.V 59 (.mv (.t 4)),.V 60 (.ia 2 (.t 59) (.c (.int .i64 0))),.V 61 (.fa 0 (.t 60)),.V 62 (.ld none (.t 61)),.V 63 (.mv (.t 10)),.V 64 (.bin .quo (.t 63) (.c (.int .i64 3))),.V 65 (.bin .add (.c (.int .i64 97)) (.t 64)),.V 66 (.conv (.int .u8) (.t 65)),.V 67 (.bsl 1 (.int .u8 0) 1 [(0,.t 66)]),.V 68 (.conv .bytesStr (.t 67)),.V 69 (.bin .add (.c (.str [111])) (.t 68)),.V 70 (.mv (.t 10)),.V 71 (.bin .rem (.t 70) (.c (.int .i64 3))),.V 72 (.bin .add (.c (.int .i64 1)) (.t 71)),.V 73 (.build [.str [],.str [],.int .i64 0] [(0,1,.t 62),(1,1,.t 69),(2,1,.t 72)]),.V 74 (.bsl 3 (.agg [.str [],.str [],.int .i64 0]) 1 [(0,.t 73)]),.W 75 (.app 3 40 (.t 58) (.t 74)),.W 5 (.asg (.t 75))] [0,4,5,9,10] [0,4,5,7,1000,4000005])) (.reg false [.V 56 (.mv (.t 10)),.V 57 (.bin .add (.t 56) (.c (.int .i64 1))),.V 10 (.asg (.t 57))] [0,4,5,9,10] [0,4,5,7,1000,4000005])
def Zon : C :=
 .seq (.seq (.reg false [.V 48 (.mv (.t 10)),.V 49 (.mv (.t 9)),.V 50 (.bin .lss (.t 48) (.t 49)),.V 51 (.mv (.t 50)),.G 52 (.mv (.t 4)) 3 true,.G 53 (.len (.t 52)) 3 true,.G 54 (.bin .gtr (.t 53) (.c (.int .i64 0))) 3 true,.V 55 (.pick (.t 51) (.t 54) (.c (.bool false)))] [0,4,5,9,10,55] [0,4,5,7,1000,4000005]) (.cond (.t 55) .skip (.exit 3))) (.norm [0,4,5,9,10] [0,4,5,7,1000,4000005] Znz)
def Zid : C :=
 .opn 7000005 (.norm [0,4,5,9,10] [0,4,1000,4000005] Zon)
def Zif : C :=
 .seq (.reg false [.V 76 (.mv (.t 4)),.V 77 (.mv (.t 5)),.W 2 (.asg (.t 76)),.W 3 (.asg (.t 77))] [0,2,3] [0,2,3,4,5,7,1000,4000005]) .ret
def Zn3 : C :=
 .seq (.seq (.reg false [.V 32 (.mv (.t 0)),.W 33 (.call (.c (.fn 463 [])) [.t 32,.c (.int .i64 20)])] [0,4,5,33] [0,4,5,7,1000,4000005]) (.block 2 (.seq (.reg false [.V 35 (.bin .eql (.t 33) (.c (.int .i64 0))),.V 34 (.asg (.t 35))] [0,4,5,33,34] [0,4,5,7,1000,4000005]) (.cond (.t 34) (.reg false [.V 36 (.mv (.t 5)),.V 37 (.mv (.t 0)),.V 38 (.mv (.t 4)),.W 39 (.call (.c (.fn 729 [])) [.t 37,.t 38]),.V 40 (.bsl 3 (.agg [.str [],.str [],.int .i64 0]) 1 [(0,.t 39)]),.W 41 (.app 3 40 (.t 36) (.t 40)),.W 5 (.asg (.t 41))] [0,4,5] [0,4,5,7,1000,4000005]) (.seq (.reg false [.V 43 (.bin .eql (.t 33) (.c (.int .i64 1))),.V 42 (.asg (.t 43))] [0,4,5,42] [0,4,5,7,1000,4000005]) (.cond (.t 42) (.seq (.reg false [.V 44 (.mv (.t 0)),.V 45 (.bsl 1 (.int .i64 0) 2 [(0,.c (.int .i64 48)),(1,.c (.int .i64 49))]),.W 46 (.call (.c (.fn 445 [])) [.t 44,.t 45]),.V 9 (.asg (.t 46))] [0,4,9] [0,4,1000]) (.seq (.reg false [.V 47 (.bsl 3 (.agg [.str [],.str [],.int .i64 0]) 0 []),.W 5 (.asg (.t 47))] [0,4,5,9] [0,4,5,7,1000,4000005]) (.seq (.reg false [.V 10 (.asg (.c (.int .i64 0)))] [0,4,5,9,10] [0,4,5,7,1000,4000005]) (.block 3 (.loop Zid))))) .skip)))))) Zif
def Zfc : Fn := { np := 1,io := [true],res := [.t 2,.t 3],own := [false,true],body :=
 (.seq (.reg false [.W 2 (.asg (.c (.nils 2))),.W 3 (.asg (.c (.nils 3)))] [0] [0,1000]) (.seq (.reg false [.V 11 (.mv (.t 0)),.W 12 (.call (.c (.fn 949 [])) [.t 11]),.W 4 (.asg (.t 12))] [0,4] [0,4,1000]) (.seq (.reg false [.V 13 (.bsl 3 (.agg [.str [],.str [],.int .i64 0]) 0 []),.W 5 (.asg (.t 13))] [0,4,5] [0,4,5,7,1000,4000005]) (.seq (.seq (.reg false [.V 14 (.mv (.t 0)),.W 15 (.call (.c (.fn 463 [])) [.t 14,.c (.int .i64 9)]),.V 6 (.asg (.t 15))] [0,4,5,6] [0,4,5,7,1000,4000005]) (.block 0 (.loop Zn5))) Zn3)))) }
noncomputable def Zd8 : List (Nat × Callee) := [(445,Zb3),(463,Zbi),(729,Zgg),(948,Ziw),(949,Ze4)]
def Zgc : List (Nat × ET) := [(2,T_Role),(3,Zaa),(4,T_Role),(5,Zaa),(7,Zaa),(12,T_Role),(13,Zaa),(21,T_Role),(22,Zaa),(24,T_Role),(27,Zaa),(31,Zaa),(36,Zaa),(38,T_Role),(40,Zaa),(41,Zaa),(45,(.one (.int .i64))),(47,Zaa),(52,T_Role),(58,Zaa),(59,T_Role),(67,(.one (.int .u8))),(74,Zaa),(75,Zaa),(76,T_Role),(77,Zaa)]
noncomputable def Zfy : Callee := Zad Zd8 Zgc Zfc [.box Zac] [.d (.one (.sl T_Role)),.tok Zaa] [.box Zac]
noncomputable def Ziu (a0 : Zac.ty) : Option (List T_Role.ty × List Zaa.ty × Zac.ty) := Zfy.f (a0,())
noncomputable def Zds  (v4 : List T_Role.ty) (v6 : Int) (r0_0 : List Int) (r0_1 : Int) (r0_2 : Int) (r4000005 : List Zaa.ty) : Option (List T_Role.ty × List Zaa.ty × Zac.ty) :=
 goL Zd8 Zgc (vleave Zfc [.box Zac] [.d (.one (.sl T_Role)),.tok Zaa] [.box Zac] []) [.c Zoa,.l Zn5,.e 0,.c Zn3]
  ⟨[(0,.loc 0 0 0),(4,.sl T_Role v4),(5,.view 4000005 0 r4000005.length),(6,.int .i64 v6)],[(0,some (.var 3 (.agg [.sl (.one (.int .u8)) r0_0,.int .i64 r0_1,.int .u64 r0_2]))),(4,none),(1000,none),(4000005,some (.sl Zaa r4000005))]⟩
noncomputable def Zfd  (v4 : List T_Role.ty) (v9 : Int) (v10 : Int) (r0_0 : List Int) (r0_1 : Int) (r0_2 : Int) (r4000005 : List Zaa.ty) : Option (List T_Role.ty × List Zaa.ty × Zac.ty) :=
 goL Zd8 Zgc (vleave Zfc [.box Zac] [.d (.one (.sl T_Role)),.tok Zaa] [.box Zac] []) [.c Zon,.l Zid,.e 3,.e 2,.c Zif]
  ⟨[(0,.loc 0 0 0),(4,.sl T_Role v4),(5,.view 4000005 0 r4000005.length),(9,.int .i64 v9),(10,.int .i64 v10)],[(0,some (.var 3 (.agg [.sl (.one (.int .u8)) r0_0,.int .i64 r0_1,.int .u64 r0_2]))),(4,none),(1000,none),(4000005,some (.sl Zaa r4000005))]⟩
noncomputable def Zol  (v4 : List T_Role.ty) (v9 : Int) (v10 : Int) (r0_0 : List Int) (r0_1 : Int) (r0_2 : Int) (r4000005 : List Zaa.ty) : Option (List T_Role.ty × List Zaa.ty × Zac.ty) :=
 goL Zd8 Zgc (vleave Zfc [.box Zac] [.d (.one (.sl T_Role)),.tok Zaa] [.box Zac] []) [.c Znz,.l Zid,.e 3,.e 2,.c Zif]
  ⟨[(0,.loc 0 0 0),(4,.sl T_Role v4),(5,.view 4000005 0 r4000005.length),(9,.int .i64 v9),(10,.int .i64 v10)],[(0,some (.var 3 (.agg [.sl (.one (.int .u8)) r0_0,.int .i64 r0_1,.int .u64 r0_2]))),(4,none),(5,none),(7,none),(1000,none),(4000005,some (.sl Zaa r4000005))]⟩
theorem Zws (a0 : Zac.ty) : Ziu a0 =
 (Zgq a0).bind fun x1 =>
  (Zak (x1.2.1,x1.2.2.1,x1.2.2.2.1,()) 9).bind fun x2 =>
   Zds x1.1 x2.1 x2.2.1 x2.2.2.1 x2.2.2.2.1 [] :=
 (mk_f _ _ _ _ _ _ _ 4000).trans (by kernel_rfl)
theorem Zkg  (v4 : List T_Role.ty) (v6 : Int) (r0_0 : List Int) (r0_1 : Int) (r0_2 : Int) (r4000005 : List Zaa.ty) : Zds v4 v6 r0_0 r0_1 r0_2 r4000005 =
 if decide (v6 > 0) then
  (Ze9 (r0_0,r0_1,r0_2,()) v4).bind fun x1 =>
   (Zg1 v4 (r4000005.take r4000005.length) (x1.1.1,x1.1.2.1,x1.1.2.2.1,())).bind fun x2 =>
    if (x2.2 == 0) then
     Zds v4 (IntKind.i64.wrap (v6 - 1)) x1.2.1 x1.2.2.1 x1.2.2.2.1 x2.1
    else
     Zds v4 (IntKind.i64.wrap (v6 - 1)) x1.2.1 x1.2.2.1 x1.2.2.2.1 r4000005
 else
  (Zak (r0_0,r0_1,r0_2,()) 20).bind fun x3 =>
   if (x3.1 == 0) then
    (Ze9 (x3.2.1,x3.2.2.1,x3.2.2.2.1,()) v4).bind fun x4 =>
     if decide (r4000005.length + 1 < lim) then
      some (v4,(((r4000005.take r4000005.length) ++ [(x4.1.1,x4.1.2.1,x4.1.2.2.1,())]).take (((r4000005.take r4000005.length) ++ [(x4.1.1,x4.1.2.1,x4.1.2.2.1,())]).length)),(x4.2.1,x4.2.2.1,x4.2.2.2.1,()))
     else
      none
   else
    if (x3.1 == 1) then
     (Zbe (x3.2.1,x3.2.2.1,x3.2.2.2.1,()) [48,49]).bind fun x5 =>
      Zfd v4 x5.1 0 x5.2.1 x5.2.2.1 x5.2.2.2.1 []
    else
     some (v4,(r4000005.take r4000005.length),(x3.2.1,x3.2.2.1,x3.2.2.2.1,())) :=
 (goL_dn _ _ _ 4000 _ _).trans (by kernel_rfl)
theorem Zk2  (v4 : List T_Role.ty) (v9 : Int) (v10 : Int) (r0_0 : List Int) (r0_1 : Int) (r0_2 : Int) (r4000005 : List Zaa.ty) : Zfd v4 v9 v10 r0_0 r0_1 r0_2 r4000005 =
 if decide (v10 < v9) then
  if decide ((v4.length : Int) > 0) then
   Zol v4 v9 v10 r0_0 r0_1 r0_2 r4000005
  else
   some (v4,(r4000005.take r4000005.length),(r0_0,r0_1,r0_2,()))
 else
  some (v4,(r4000005.take r4000005.length),(r0_0,r0_1,r0_2,())) :=
 (goL_dn _ _ _ 4000 _ _).trans (by kernel_rfl)
theorem Zr6  (v4 : List T_Role.ty) (v9 : Int) (v10 : Int) (r0_0 : List Int) (r0_1 : Int) (r0_2 : Int) (r4000005 : List Zaa.ty) : Zol v4 v9 v10 r0_0 r0_1 r0_2 r4000005 =
 (v4[0]?).bind fun x1 =>
  if decide ([111].length + ([IntKind.u8.wrap (IntKind.i64.wrap (97 + (IntKind.i64.wrap (v10.tdiv 3))))].map vu8).length ≤ strMax) then
   if decide (r4000005.length + 1 < lim) then
    Zfd v4 v9 (IntKind.i64.wrap (v10 + 1)) r0_0 r0_1 r0_2 ((r4000005.take r4000005.length) ++ [(x1.1,[111] ++ ([IntKind.u8.wrap (IntKind.i64.wrap (97 + (IntKind.i64.wrap (v10.tdiv 3))))].map vu8),IntKind.i64.wrap (1 + (v10.tmod 3)),())])
   else
    none
  else
   none :=
 (goL_dn _ _ _ 4000 _ _).trans (by kernel_rfl)
def Zpq : Fn := { np := 1,io := [true],res := [.t 2],own := [false],body :=
 (.seq (.reg false [.V 2 (.asg (.c (.int .i64 0)))] [0] [0,1000]) (.seq (.reg false [.V 3 (.mv (.t 0)),.V 4 (.bsl 1 (.int .i64 0) 8 [(0,.c (.int .i64 1)),(1,.c (.int .i64 2)),(2,.c (.int .i64 3)),(3,.c (.int .i64 1)),(4,.c (.int .i64 2)),(5,.c (.int .i64 3)),(6,.c (.int .i64 0)),(7,.c (.int .i64 4))]),.W 5 (.call (.c (.fn 445 [])) [.t 3,.t 4]),.V 2 (.asg (.t 5))] [0,2] [0,1000]) .ret)) }
noncomputable def Zh9 : List (Nat × Callee) := [(445,Zb3)]
def Zqm : List (Nat × ET) := [(4,(.one (.int .i64)))]
noncomputable def Zey : Callee := Zad Zh9 Zqm Zpq [.box Zac] [.d (.one (.int .i64))] [.box Zac]
noncomputable def Zft (a0 : Zac.ty) : Option (Int × Zac.ty) := Zey.f (a0,())
theorem Zph (a0 : Zac.ty) : Zft a0 =
 (Zbe a0 [1,2,3,1,2,3,0,4]).bind fun x1 =>
  some (x1.1,(x1.2.1,x1.2.2.1,x1.2.2.2.1,())) :=
 (mk_f _ _ _ _ _ _ _ 4000).trans (by kernel_rfl)
def Ztg : Fn := { np := 1,io := [],res := [.t 2,.t 3,.t 4,.t 5],own := [false,true,false,false],body :=
 (.seq (.reg false [.W 2 (.asg (.c (.nils 2))),.W 3 (.asg (.c (.nils 3))),.V 4 (.asg (.c (.str []))),.V 5 (.asg (.c (.int .i64 0)))] [0] []) (.seq (.reg false [.V 10 (.mv (.t 0)),.W 11 (.call (.c (.fn 441 [])) [.t 10]),.V 6 (.asg (.t 11))] [6] [11,12000]) (.seq (.reg false [.V 13 (.mv (.t 6)),.W 14 (.call (.c (.fn 730 [])) [.t 13]),.V 12 (.mv (.t 14)),.V 15 (.ext (.t 12) 0),.V 16 (.ext (.t 12) 1),.W 7 (.asg (.t 15)),.W 8 (.asg (.t 16))] [6,7,8] [7,8,11,12000]) (.seq (.reg false [.V 17 (.mv (.t 6)),.W 18 (.call (.c (.fn 812 [])) [.t 17]),.V 9 (.asg (.t 18))] [6,7,8,9] [7,8,11,12000]) (.seq (.reg false [.V 19 (.mv (.t 7)),.V 20 (.mv (.t 8)),.V 21 (.mv (.t 9)),.V 22 (.mv (.t 6)),.W 23 (.call (.c (.fn 811 [])) [.t 22]),.W 2 (.asg (.t 19)),.W 3 (.asg (.t 20)),.V 4 (.asg (.t 21)),.V 5 (.asg (.t 23))] [2,3,4,5] [2,3,7,8]) .ret))))) }
noncomputable def Zlp : List (Nat × Callee) := [(441,Zf1),(730,Zfy),(811,Zey),(812,Zcr)]
def Zt1 : List (Nat × ET) := [(2,T_Role),(3,Zaa),(7,T_Role),(8,Zaa),(10,(.one (.int .u8))),(15,T_Role),(16,Zaa),(19,T_Role),(20,Zaa)]
noncomputable def Zgk : Callee := Zad Zlp Zt1 Ztg [.d (.one (.sl (.one (.int .u8))))] [.d (.one (.sl T_Role)),.tok Zaa,.d (.one .str),.d (.one (.int .i64))] []
noncomputable def Zin (a0 : List Int) : Option (List T_Role.ty × List Zaa.ty × List UInt8 × Int) := Zgk.f (a0,())
theorem Ztf (a0 : List Int) : Zin a0 =
 (Zia a0).bind fun x1 =>
  (Ziu x1).bind fun x2 =>
   (Zce (x2.2.2.1,x2.2.2.2.1,x2.2.2.2.2.1,())).bind fun x3 =>
    (Zft (x3.2.1,x3.2.2.1,x3.2.2.2.1,())).bind fun x4 =>
     some (x2.1,(x2.2.1.take x2.2.1.length),x3.1,x4.1) :=
 (mk_f _ _ _ _ _ _ _ 4000).trans (by kernel_rfl)
def Zxb : Fn := { np := 1,io := [],res := [.t 2],own := [false],body :=
 (.seq (.reg false [.V 2 (.asg (.c (.bool false)))] [0] []) (.seq (.reg false [.V 3 (.mv (.t 0)),.V 4 (.bin .geq (.t 3) (.c (.int .u8 48))),.V 5 (.mv (.t 4)),.G 6 (.mv (.t 0)) 2 true,.G 7 (.bin .leq (.t 6) (.c (.int .u8 57))) 2 true,.V 8 (.pick (.t 5) (.t 7) (.c (.bool false))),.V 2 (.asg (.t 8))] [2] []) .ret)) }
noncomputable def Zpg : List (Nat × Callee) := []
def Zx2 : List (Nat × ET) := []
noncomputable def Zj0 : Callee := Zad Zpg Zx2 Zxb [.d (.one (.int .u8))] [.d (.one .bool)] []
noncomputable def Zm9 (a0 : Int) : Option (Bool) := Zj0.f (a0,())
theorem Zwj (a0 : Int) : Zm9 a0 =
 if decide (a0 ≥ 48) then
  some (decide (a0 ≤ 57))
 else
  some false :=
 (mk_f _ _ _ _ _ _ _ 4000).trans (by kernel_rfl)
def Z1z : Fn := { np := 2,io := [],res := [.t 4],own := [false],body :=
 (.seq (.reg false [.V 4 (.asg (.c (.bool false)))] [0,1] []) (.seq (.reg false [.V 5 (.mv (.t 0)),.V 6 (.mv (.t 1)),.V 7 (.bin .leq (.t 5) (.t 6)),.V 4 (.asg (.t 7))] [4] []) .ret)) }
noncomputable def Zwb : List (Nat × Callee) := []
def Z30 : List (Nat × ET) := []
noncomputable def Zis : Callee := Zad Zwb Z30 Z1z [.d (.one (.int .i64)),.d (.one (.int .i64))] [.d (.one .bool)] []
noncomputable def Zqa (a0 : Int) (a1 : Int) : Option (Bool) := Zis.f (a0,a1,())
theorem Zoy (a0 : Int) (a1 : Int) : Zqa a0 a1 =
 some (decide (a0 ≤ a1)) :=
 (mk_f _ _ _ _ _ _ _ 4000).trans (by kernel_rfl)
def Zps : C :=
 .seq (.reg false [.V 21 (.mv (.t 4)),.V 22 (.un .not (.t 21)),.V 23 (.mv (.t 22)),.G 24 (.mv (.t 3)) 2 true,.G 25 (.bin .eql (.t 24) (.c (.int .i64 0))) 2 true,.G 26 (.mv (.t 25)) 2 true,.G 27 (.mv (.t 0)) 5 false,.G 28 (.mv (.t 3)) 5 false,.G 29 (.ix (.t 27) (.t 28)) 5 false,.G 30 (.call (.c (.fn 22 [])) [.t 29]) 5 false,.G 31 (.un .not (.t 30)) 5 false,.G 32 (.pick (.t 26) (.c (.bool true)) (.t 31)) 2 true,.V 33 (.pick (.t 23) (.t 32) (.c (.bool false)))] [0,3,33] []) (.cond (.t 33) (.seq (.reg false [.V 2 (.asg (.c (.bool false)))] [2] []) .ret) .skip)
def Zpu : C :=
 .reg false [.V 9 (.mv (.t 3)),.V 10 (.bin .add (.t 9) (.c (.int .i64 1))),.V 3 (.asg (.t 10))] [0,3] []
def Zpa : C :=
 .seq (.seq (.reg false [.V 5 (.mv (.t 3)),.V 6 (.mv (.t 0)),.V 7 (.lens (.t 6)),.V 8 (.bin .lss (.t 5) (.t 7))] [0,3,8] []) (.cond (.t 8) .skip (.exit 0))) (.seq (.block 1 (.seq (.reg false [.V 11 (.mv (.t 0)),.V 12 (.mv (.t 3)),.V 13 (.ix (.t 11) (.t 12)),.V 14 (.bin .geq (.t 13) (.c (.int .u8 97))),.V 15 (.mv (.t 14)),.G 16 (.mv (.t 0)) 4 true,.G 17 (.mv (.t 3)) 4 true,.G 18 (.ix (.t 16) (.t 17)) 4 true,.G 19 (.bin .leq (.t 18) (.c (.int .u8 122))) 4 true,.V 20 (.pick (.t 15) (.t 19) (.c (.bool false))),.V 4 (.asg (.t 20))] [0,3,4] []) (.norm [0,3,4] [] Zps))) Zpu)
def Zju : C :=
 .norm [0,3] [] Zpa
def Zjr : C :=
 .seq (.reg false [.V 34 (.mv (.t 0)),.V 35 (.bin .neq (.t 34) (.c (.str []))),.V 36 (.mv (.t 35)),.G 37 (.mv (.t 0)) 2 true,.G 38 (.lens (.t 37)) 2 true,.G 39 (.call (.c (.fn 21 [])) [.t 38,.c (.int .i64 10)]) 2 true,.V 40 (.pick (.t 36) (.t 39) (.c (.bool false))),.V 2 (.asg (.t 40))] [2] []) .ret
def Zjs : Fn := { np := 1,io := [],res := [.t 2],own := [false],body :=
 (.seq (.reg false [.V 2 (.asg (.c (.bool false)))] [0] []) (.seq (.seq (.reg false [.V 3 (.asg (.c (.int .i64 0)))] [0,3] []) (.block 0 (.loop Zju))) Zjr)) }
noncomputable def Zg0 : List (Nat × Callee) := [(21,Zis),(22,Zj0)]
def Zk4 : List (Nat × ET) := []
noncomputable def Ze0 : Callee := Zad Zg0 Zk4 Zjs [.d (.one .str)] [.d (.one .bool)] []
noncomputable def Zcb (a0 : List UInt8) : Option (Bool) := Ze0.f (a0,())
noncomputable def Zea  (v0 : List UInt8) (v3 : Int) : Option (Bool) :=
 goL Zg0 Zk4 (vleave Zjs [.d (.one .str)] [.d (.one .bool)] [] []) [.c Zpa,.l Zju,.e 0,.c Zjr]
  ⟨[(0,.str v0),(3,.int .i64 v3)],[]⟩
noncomputable def Zga  (v0 : List UInt8) (v3 : Int) (v4 : Bool) : Option (Bool) :=
 goL Zg0 Zk4 (vleave Zjs [.d (.one .str)] [.d (.one .bool)] [] []) [.c Zps,.e 1,.c Zpu,.l Zju,.e 0,.c Zjr]
  ⟨[(0,.str v0),(3,.int .i64 v3),(4,.bool v4)],[]⟩
theorem Zxi (a0 : List UInt8) : Zcb a0 =
 Zea a0 0 :=
 (mk_f _ _ _ _ _ _ _ 4000).trans (by kernel_rfl)
theorem Zlj  (v0 : List UInt8) (v3 : Int) : Zea v0 v3 =
 if decide (v3 < (v0.length : Int)) then
  if decide (0 ≤ v3) then
   (v0[v3.toNat]?).bind fun x1 =>
    if decide ((x1.toNat : Int) ≥ 97) then
     if decide (0 ≤ v3) then
      (v0[v3.toNat]?).bind fun x2 =>
       Zga v0 v3 (decide ((x2.toNat : Int) ≤ 122))
     else
      none
    else
     Zga v0 v3 false
  else
   none
 else
  if (!(v0 == [])) then
   (Zqa (v0.length : Int) 10).bind fun x3 =>
    some x3
  else
   some false :=
 (goL_dn _ _ _ 4000 _ _).trans (by kernel_rfl)
theorem Zt6  (v0 : List UInt8) (v3 : Int) (v4 : Bool) : Zga v0 v3 v4 =
 if (!v4) then
  if (v3 == 0) then
   some false
  else
   if decide (0 ≤ v3) then
    (v0[v3.toNat]?).bind fun x1 =>
     (Zm9 (x1.toNat : Int)).bind fun x2 =>
      if (!x2) then
       some false
      else
       Zea v0 (IntKind.i64.wrap (v3 + 1))
   else
    none
 else
  Zea v0 (IntKind.i64.wrap (v3 + 1)) :=
 (goL_dn _ _ _ 4000 _ _).trans (by kernel_rfl)
def Zvd : Fn := { np := 2,io := [],res := [.t 3],own := [false],body :=
 (.seq (.reg false [.W 2 (.box 2 (.t 0)),.V 3 (.asg (.c (.bool false)))] [1,2] [2,3001]) (.seq (.reg false [.V 4 (.fa 0 (.t 2)),.V 5 (.ld none (.t 4)),.V 6 (.ld none (.t 1)),.V 7 (.bin .eql (.t 5) (.t 6)),.V 3 (.asg (.t 7))] [3] []) .ret)) }
noncomputable def Zn4 : List (Nat × Callee) := []
def Zxd : List (Nat × ET) := []
noncomputable def Zib : Callee := Zad Zn4 Zxd Zvd [.d T_Role,.p (.one .str)] [.d (.one .bool)] []
noncomputable def Zrf (a0 : T_Role.ty) (a1 : List UInt8) : Option (Bool) := Zib.f (a0,a1,())
theorem Zvb (a0 : T_Role.ty) (a1 : List UInt8) : Zrf a0 a1 =
 some (a0.1 == a1) :=
 (mk_f _ _ _ _ _ _ _ 4000).trans (by kernel_rfl)
def Za2 : C :=
 .seq (.reg false [.V 9 (.bin .lss (.t 8) (.t 7))] [0,1,7,8,9] []) (.seq (.cond (.t 9) .skip (.exit 0)) (.seq (.block 1 (.seq (.reg false [.V 10 (.mv (.t 8)),.V 5 (.asg (.t 10))] [0,1,5,7,8] []) (.seq (.reg false [.V 11 (.mv (.t 1)),.V 12 (.mv (.t 0)),.V 13 (.mv (.t 5)),.V 14 (.ia 2 (.t 12) (.t 13)),.V 15 (.ld (some 2) (.t 14)),.V 16 (.call (.t 11) [.t 15])] [0,1,5,7,8,16] []) (.cond (.t 16) (.seq (.reg false [.V 17 (.mv (.t 5)),.V 4 (.asg (.t 17))] [4] []) .ret) .skip)))) (.reg false [.V 18 (.bin .add (.t 8) (.c (.int .i64 1))),.V 8 (.mv (.t 18))] [0,1,7,8] [])))
def Zax : C :=
 .norm [0,1,7,8] [] Za2
def Zaz : C :=
 .seq (.reg false [.V 4 (.asg (.c (.int .i64 (-1))))] [4] []) .ret
def Za1 : Fn := { np := 2,io := [],res := [.t 4],own := [false],body :=
 (.seq (.reg false [.V 4 (.asg (.c (.int .i64 0)))] [0,1] []) (.seq (.seq (.reg false [.V 6 (.mv (.t 0)),.V 7 (.len (.t 6)),.V 8 (.mv (.c (.int .i64 0)))] [0,1,7,8] []) (.block 0 (.loop Zax))) Zaz)) }
noncomputable def Zam : List (Nat × Callee) := [(983,Zib)]
def Za6 : List (Nat × ET) := [(6,T_Role),(12,T_Role)]
noncomputable def Zal : Callee := Zad Zam Za6 Za1 [.d (.one (.sl T_Role)),.fn 983 [(.one .str)]] [.d (.one (.int .i64))] []
noncomputable def Zbd (a0 : List T_Role.ty) (a1 : (List UInt8) × Unit) : Option (Int) := Zal.f (a0,a1,())
noncomputable def Zag  (v0 : List T_Role.ty) (v1_0_0 : List UInt8) (v7 : Int) (v8 : Int) : Option (Int) :=
 goL Zam Za6 (vleave Za1 [.d (.one (.sl T_Role)),.fn 983 [(.one .str)]] [.d (.one (.int .i64))] [] []) [.c Za2,.l Zax,.e 0,.c Zaz]
  ⟨[(0,.sl T_Role v0),(1,.fn 983 [.ptr [.str v1_0_0] 0]),(7,.int .i64 v7),(8,.int .i64 v8)],[]⟩
theorem Zca (a0 : List T_Role.ty) (a1 : (List UInt8) × Unit) : Zbd a0 a1 =
 Zag a0 a1.1 (a0.length : Int) 0 :=
 (mk_f _ _ _ _ _ _ _ 4000).trans (by kernel_rfl)
theorem Zat  (v0 : List T_Role.ty) (v1_0_0 : List UInt8) (v7 : Int) (v8 : Int) : Zag v0 v1_0_0 v7 v8 =
 if decide (v8 < v7) then
  if decide (0 ≤ v8) then
   (v0[v8.toNat]?).bind fun x1 =>
    (Zrf x1 v1_0_0).bind fun x2 =>
     if x2 then
      some v8
     else
      Zag v0 v1_0_0 v7 (IntKind.i64.wrap (v8 + 1))
  else
   none
 else
  some (-1) :=
 (goL_dn _ _ _ 4000 _ _).trans (by kernel_rfl)
def Zxu : Fn := { np := 2,io := [],res := [.t 4],own := [false],body :=
 (.seq (.reg false [.W 3 (.box 1 (.t 1)),.V 4 (.asg (.c (.int .i64 0)))] [0,3] [3]) (.seq (.reg false [.V 5 (.mv (.t 0)),.V 6 (.mkf 983 [.t 3]),.V 7 (.call (.c (.fn 1282 [])) [.t 5,.t 6]),.V 4 (.asg (.t 7))] [4] []) .ret)) }
noncomputable def Zq4 : List (Nat × Callee) := [(1282,Zal)]
def Zzw : List (Nat × ET) := [(5,T_Role)]
noncomputable def Zdl : Callee := Zad Zq4 Zzw Zxu [.d (.one (.sl T_Role)),.d (.one .str)] [.d (.one (.int .i64))] []
noncomputable def Zbl (a0 : List T_Role.ty) (a1 : List UInt8) : Option (Int) := Zdl.f (a0,a1,())
theorem Zx8 (a0 : List T_Role.ty) (a1 : List UInt8) : Zbl a0 a1 =
 (Zbd a0 (a1,())).bind fun x1 =>
  some x1 :=
 (mk_f _ _ _ _ _ _ _ 4000).trans (by kernel_rfl)
def Zcy : C :=
 .seq (.reg false [.V 9 (.bin .lss (.t 8) (.t 7))] [0,1,7,8,9] []) (.seq (.cond (.t 9) .skip (.exit 0)) (.seq (.block 1 (.seq (.reg false [.V 10 (.mv (.t 8)),.V 5 (.asg (.t 10))] [0,1,5,7,8] []) (.seq (.reg false [.V 11 (.mv (.t 1)),.V 12 (.mv (.t 0)),.V 13 (.mv (.t 5)),.V 14 (.ia 1 (.t 12) (.t 13)),.V 15 (.ld none (.t 14)),.V 16 (.bin .eql (.t 11) (.t 15))] [0,1,5,7,8,16] []) (.cond (.t 16) (.seq (.reg false [.V 17 (.mv (.t 5)),.V 4 (.asg (.t 17))] [4] []) .ret) .skip)))) (.reg false [.V 18 (.bin .add (.t 8) (.c (.int .i64 1))),.V 8 (.mv (.t 18))] [0,1,7,8] [])))
def Zdb : C :=
 .norm [0,1,7,8] [] Zcy
def Zc9 : C :=
 .seq (.reg false [.V 4 (.asg (.c (.int .i64 (-1))))] [4] []) .ret
def Zc8 : Fn := { np := 2,io := [],res := [.t 4],own := [false],body :=
 (.seq (.reg false [.V 4 (.asg (.c (.int .i64 0)))] [0,1] []) (.seq (.seq (.reg false [.V 6 (.mv (.t 0)),.V 7 (.len (.t 6)),.V 8 (.mv (.c (.int .i64 0)))] [0,1,7,8] []) (.block 0 (.loop Zdb))) Zc9)) }
noncomputable def Zbs : List (Nat × Callee) := []
def Zdh : List (Nat × ET) := [(6,(.one .str)),(12,(.one .str))]
noncomputable def Zbt : Callee := Zad Zbs Zdh Zc8 [.d (.one (.sl (.one .str))),.d (.one .str)] [.d (.one (.int .i64))] []
noncomputable def Zb2 (a0 : List (List UInt8)) (a1 : List UInt8) : Option (Int) := Zbt.f (a0,a1,())
noncomputable def Zba  (v0 : List (List UInt8)) (v1 : List UInt8) (v7 : Int) (v8 : Int) : Option (Int) :=
 goL Zbs Zdh (vleave Zc8 [.d (.one (.sl (.one .str))),.d (.one .str)] [.d (.one (.int .i64))] [] []) [.c Zcy,.l Zdb,.e 0,.c Zc9]
  ⟨[(0,.sl (.one .str) v0),(1,.str v1),(7,.int .i64 v7),(8,.int .i64 v8)],[]⟩
theorem Zhk (a0 : List (List UInt8)) (a1 : List UInt8) : Zb2 a0 a1 =
 Zba a0 a1 (a0.length : Int) 0 :=
 (mk_f _ _ _ _ _ _ _ 4000).trans (by kernel_rfl)
theorem Zci  (v0 : List (List UInt8)) (v1 : List UInt8) (v7 : Int) (v8 : Int) : Zba v0 v1 v7 v8 =
 if decide (v8 < v7) then
  if decide (0 ≤ v8) then
   (v0[v8.toNat]?).bind fun x1 =>
    if (v1 == x1) then
     some v8
    else
     Zba v0 v1 v7 (IntKind.i64.wrap (v8 + 1))
  else
   none
 else
  some (-1) :=
 (goL_dn _ _ _ 4000 _ _).trans (by kernel_rfl)
def Zgb : Fn := { np := 2,io := [],res := [.t 4],own := [false],body :=
 (.seq (.reg false [.V 4 (.asg (.c (.bool false)))] [0,1] []) (.seq (.reg false [.V 5 (.mv (.t 0)),.V 6 (.mv (.t 1)),.V 7 (.call (.c (.fn 634 [])) [.t 5,.t 6]),.V 8 (.bin .geq (.t 7) (.c (.int .i64 0))),.V 4 (.asg (.t 8))] [4] []) .ret)) }
noncomputable def Zco : List (Nat × Callee) := [(634,Zbt)]
def Zgh : List (Nat × ET) := [(5,(.one .str))]
noncomputable def Zaw : Callee := Zad Zco Zgh Zgb [.d (.one (.sl (.one .str))),.d (.one .str)] [.d (.one .bool)] []
noncomputable def Zab (a0 : List (List UInt8)) (a1 : List UInt8) : Option (Bool) := Zaw.f (a0,a1,())
theorem Zf9 (a0 : List (List UInt8)) (a1 : List UInt8) : Zab a0 a1 =
 (Zb2 a0 a1).bind fun x1 =>
  some (decide (x1 ≥ 0)) :=
 (mk_f _ _ _ _ _ _ _ 4000).trans (by kernel_rfl)
noncomputable def Zbw : Callee := sortSC
noncomputable def Zb8 (a0 : List (List UInt8)) : Option (List (List UInt8)) := Zbw.f (a0,())
theorem Zhy (a0 : List (List UInt8)) : Zb8 a0 = if decide (a0.length < 4611686018427387904) then some (a0.mergeSort fun a b => decide (a ≤ b)) else none := rfl
noncomputable def Zbp : Callee := Zyn
noncomputable def Zbu (a0 : List (List UInt8)) : Option (List (List UInt8) × Unit) := Zbp.f (a0,())
theorem Zgl (a0 : List (List UInt8)) : Zbu a0 = if decide (a0.length ≤ 9223372036854775807) then some (Lib.compact a0,()) else none := rfl
def Zua : Fn := { np := 1,io := [true],res := [.t 2],own := [true],body :=
 (.seq (.reg false [.W 2 (.asg (.c (.nils 1)))] [0] [0]) (.seq (.reg false [.V 3 (.mv (.t 0)),.W 4 (.call (.c (.fn 823 [])) [.t 3])] [0] [0]) (.seq (.reg false [.V 5 (.mv (.t 0)),.W 6 (.call (.c (.fn 861 [])) [.t 5]),.W 2 (.asg (.t 6))] [0,2] [0,2]) .ret))),gone := [0] }
noncomputable def Zmu : List (Nat × Callee) := [(823,Zbw),(861,Zbp)]
def Zu6 : List (Nat × ET) := [(2,(.one .str)),(3,(.one .str)),(5,(.one .str)),(6,(.one .str))]
noncomputable def Zg8 : Callee := Zad Zmu Zu6 Zua [.ios (.one .str)] [.tok (.one .str)] [.gone]
noncomputable def Zjt (a0 : List (List UInt8)) : Option (List (List UInt8) × Unit) := Zg8.f (a0,())
theorem Zt8 (a0 : List (List UInt8)) : Zjt a0 =
 if decide (a0.length = a0.length) then
  (Zb8 a0).bind fun x1 =>
   if decide (a0.length = x1.length) then
    (Zbu x1).bind fun x2 =>
     some ((x2.1.take x2.1.length),())
   else
    none
 else
  none :=
 (mk_f _ _ _ _ _ _ _ 4000).trans (by kernel_rfl)
def Zrc : C :=
 .seq (.reg false [.V 30 (.bin .lss (.t 29) (.t 28))] [0,5,6,27,28,29,30] [5,6,4000006]) (.seq (.cond (.t 30) .skip (.exit 2)) (.seq (.block 3 (.seq (.reg false [.V 31 (.ia 1 (.t 27) (.t 29)),.V 32 (.ld none (.t 31)),.V 9 (.asg (.t 32))] [0,5,6,9,27,28,29] [5,6,4000006]) (.seq (.reg false [.V 33 (.mv (.t 5)),.V 34 (.mv (.t 9)),.V 35 (.call (.c (.fn 985 [])) [.t 33,.t 34]),.V 36 (.un .not (.t 35))] [0,5,6,9,27,28,29,36] [5,6,4000006]) (.cond (.t 36) (.seq (.reg false [.V 37 (.mv (.t 5)),.V 38 (.mv (.t 9)),.V 39 (.bsl 1 (.str []) 1 [(0,.t 38)]),.W 40 (.app 1 16 (.t 37) (.t 39)),.W 5 (.asg (.t 40))] [0,5,6,9,27,28,29] [5,6,4000006]) (.reg false [.V 41 (.mv (.t 6)),.V 42 (.mv (.t 9)),.V 43 (.bsl 1 (.str []) 1 [(0,.t 42)]),.W 44 (.app 1 16 (.t 41) (.t 43)),.W 6 (.asg (.t 44))] [0,5,6,27,28,29] [5,6,4000006])) .skip)))) (.reg false [.V 45 (.bin .add (.t 29) (.c (.int .i64 1))),.V 29 (.mv (.t 45))] [0,5,6,27,28,29] [5,6,4000006])))
def Zre : C :=
 .opn 8000006 (.norm [0,5,6,27,28,29] [5,4000006] Zrc)
def Zq2 : C :=
 .seq (.seq (.reg false [.V 13 (.mv (.t 6)),.V 14 (.len (.t 13)),.V 15 (.bin .gtr (.t 14) (.c (.int .i64 0)))] [0,5,6,15] [5,6,4000006]) (.cond (.t 15) .skip (.exit 0))) (.block 1 (.seq (.reg false [.V 16 (.mv (.t 0)),.V 17 (.mv (.t 6)),.V 18 (.ia 1 (.t 17) (.c (.int .i64 0))),.V 19 (.ld none (.t 18)),.V 20 (.call (.c (.fn 815 [])) [.t 16,.t 19]),.V 7 (.asg (.t 20))] [0,5,6,7] [5,6,4000006]) (.seq (.reg false [.V 21 (.mv (.t 6)),.V 22 (.slc 1 (.t 21) (some (.c (.int .i64 1))) none),.W 6 (.asg (.t 22))] [0,5,6,7] [5,6,4000006]) (.seq (.reg false [.V 23 (.mv (.t 0)),.V 24 (.mv (.t 7)),.V 25 (.ia 2 (.t 23) (.t 24)),.V 26 (.fa 1 (.t 25)),.V 27 (.ld none (.t 26)),.V 28 (.len (.t 27)),.V 29 (.mv (.c (.int .i64 0)))] [0,5,6,27,28,29] [5,6,4000006]) (.block 2 (.loop Zre))))))
def Zle : C :=
 .opn 8000006 (.norm [0,5,6] [5,4000006] Zq2)
def Zlc : C :=
 .seq (.reg false [.V 46 (.mv (.t 5)),.W 47 (.call (.c (.fn 520 [])) [.t 46]),.W 4 (.asg (.t 47))] [4] [4]) .ret
def Zk7 : Fn := { np := 2,io := [],res := [.t 4],own := [true],body :=
 (.seq (.reg false [.W 4 (.asg (.c (.nils 1)))] [0,1] []) (.seq (.reg false [.V 10 (.bsl 1 (.str []) 0 []),.W 5 (.asg (.t 10))] [0,1,5] [5]) (.seq (.reg false [.V 11 (.mv (.t 1)),.V 12 (.bsl 1 (.str []) 1 [(0,.t 11)]),.W 6 (.asg (.t 12))] [0,5,6] [5,6,4000006]) (.seq (.block 0 (.loop Zle)) Zlc)))) }
noncomputable def Zh6 : List (Nat × Callee) := [(520,Zg8),(815,Zdl),(985,Zaw)]
def Zm8 : List (Nat × ET) := [(4,(.one .str)),(5,(.one .str)),(6,(.one .str)),(10,(.one .str)),(12,(.one .str)),(13,(.one .str)),(16,T_Role),(17,(.one .str)),(21,(.one .str)),(22,(.one .str)),(23,T_Role),(27,(.one .str)),(33,(.one .str)),(37,(.one .str)),(39,(.one .str)),(40,(.one .str)),(41,(.one .str)),(43,(.one .str)),(44,(.one .str)),(46,(.one .str)),(47,(.one .str))]
noncomputable def Zh8 : Callee := Zad Zh6 Zm8 Zk7 [.d (.one (.sl T_Role)),.d (.one .str)] [.tok (.one .str)] []
noncomputable def Zan (a0 : List T_Role.ty) (a1 : List UInt8) : Option (List (List UInt8)) := Zh8.f (a0,a1,())
noncomputable def Zdj  (v0 : List T_Role.ty) (v6n : Nat) (r5 : List (List UInt8)) (r4000006 : List (List UInt8)) : Option (List (List UInt8)) :=
 goL Zh6 Zm8 (vleave Zk7 [.d (.one (.sl T_Role)),.d (.one .str)] [.tok (.one .str)] [] []) [.c Zq2,.l Zle,.e 0,.c Zlc]
  ⟨[(0,.sl T_Role v0),(5,.view 5 0 r5.length),(6,.view 4000006 0 v6n)],[(5,some (.sl (.one .str) r5)),(4000006,some (.sl (.one .str) r4000006))]⟩
noncomputable def Zdn  (v0 : List T_Role.ty) (v6n : Nat) (v27 : List (List UInt8)) (v28 : Int) (v29 : Int) (r5 : List (List UInt8)) (r4000006 : List (List UInt8)) : Option (List (List UInt8)) :=
 goL Zh6 Zm8 (vleave Zk7 [.d (.one (.sl T_Role)),.d (.one .str)] [.tok (.one .str)] [] []) [.c Zrc,.l Zre,.e 2,.e 1,.l Zle,.e 0,.c Zlc]
  ⟨[(0,.sl T_Role v0),(5,.view 5 0 r5.length),(6,.view 4000006 0 v6n),(27,.sl (.one .str) v27),(28,.int .i64 v28),(29,.int .i64 v29)],[(5,some (.sl (.one .str) r5)),(4000006,some (.sl (.one .str) r4000006))]⟩
theorem Zzt (a0 : List T_Role.ty) (a1 : List UInt8) : Zan a0 a1 =
 Zdj a0 1 [] [a1] :=
 (mk_f _ _ _ _ _ _ _ 4000).trans (by kernel_rfl)
theorem Zmt  (v0 : List T_Role.ty) (v6n : Nat) (r5 : List (List UInt8)) (r4000006 : List (List UInt8)) : Zdj v0 v6n r5 r4000006 =
 if decide ((v6n : Int) > 0) then
  if decide (0 < (v6n : Int)) then
   (r4000006[0]?).bind fun x1 =>
    (Zbl v0 x1).bind fun x2 =>
     if decide (1 ≤ (v6n : Int)) then
      if decide (0 ≤ x2) then
       (v0[x2.toNat]?).bind fun x3 =>
        Zdn v0 (v6n - 1) x3.2.1 (x3.2.1.length : Int) 0 r5 ((r4000006.drop 1).take (v6n - 1))
      else
       none
     else
      none
  else
   none
 else
  if decide (r5.length = r5.length) then
   (Zjt r5).bind fun x4 =>
    some (x4.1.take x4.1.length)
  else
   none :=
 (goL_dn _ _ _ 4000 _ _).trans (by kernel_rfl)
theorem Znr  (v0 : List T_Role.ty) (v6n : Nat) (v27 : List (List UInt8)) (v28 : Int) (v29 : Int) (r5 : List (List UInt8)) (r4000006 : List (List UInt8)) : Zdn v0 v6n v27 v28 v29 r5 r4000006 =
 if decide (v29 < v28) then
  if decide (0 ≤ v29) then
   (v27[v29.toNat]?).bind fun x1 =>
    (Zab (r5.take r5.length) x1).bind fun x2 =>
     if (!x2) then
      if decide (r5.length + 1 < lim) then
       if decide (v6n + 1 < lim) then
        Zdn v0 (((r4000006.take v6n) ++ [x1]).length) v27 v28 (IntKind.i64.wrap (v29 + 1)) ((r5.take r5.length) ++ [x1]) (((r4000006.take v6n) ++ [x1]).take (((r4000006.take v6n) ++ [x1]).length))
       else
        none
      else
       none
     else
      Zdn v0 v6n v27 v28 (IntKind.i64.wrap (v29 + 1)) r5 (r4000006.take v6n)
  else
   none
 else
  Zdj v0 v6n r5 (r4000006.take v6n) :=
 (goL_dn _ _ _ 4000 _ _).trans (by kernel_rfl)
def Zkl : C :=
 .seq (.reg false [.V 39 (.bin .lss (.t 38) (.t 37))] [0,4,9,10,11,36,37,38,39] [4,5001]) (.seq (.cond (.t 39) .skip (.exit 2)) (.seq (.block 3 (.seq (.reg false [.V 40 (.mv (.t 38)),.V 41 (.ia 1 (.t 36) (.t 38)),.V 42 (.ld none (.t 41)),.V 5 (.asg (.t 40)),.V 6 (.asg (.t 42))] [0,4,5,6,9,10,11,36,37,38] [4,5001]) (.seq (.reg false [.V 43 (.mv (.t 5)),.V 44 (.bin .gtr (.t 43) (.c (.int .i64 0))),.V 45 (.mv (.t 44)),.G 46 (.fa 1 (.t 4)) 2 true,.G 47 (.ld none (.t 46)) 2 true,.G 48 (.mv (.t 5)) 2 true,.G 49 (.bin .sub (.t 48) (.c (.int .i64 1))) 2 true,.G 50 (.ia 1 (.t 47) (.t 49)) 2 true,.G 51 (.ld none (.t 50)) 2 true,.G 52 (.mv (.t 6)) 2 true,.G 53 (.bin .geq (.t 51) (.t 52)) 2 true,.V 54 (.pick (.t 45) (.t 53) (.c (.bool false))),.V 55 (.mv (.t 54)),.G 56 (.mv (.t 0)) 12 false,.G 57 (.mv (.t 6)) 12 false,.G 58 (.call (.c (.fn 815 [])) [.t 56,.t 57]) 12 false,.G 59 (.bin .lss (.t 58) (.c (.int .i64 0))) 12 false,.V 60 (.pick (.t 55) (.c (.bool true)) (.t 59))] [0,4,9,10,11,36,37,38,60] [4,5001]) (.cond (.t 60) (.seq (.reg false [.V 2 (.asg (.c (.bool false)))] [2] []) .ret) .skip)))) (.reg false [.V 61 (.bin .add (.t 38) (.c (.int .i64 1))),.V 38 (.mv (.t 61))] [0,4,9,10,11,36,37,38] [4,5001])))
def Zky : C :=
 .norm [0,4,9,10,11,36,37,38] [4,5001] Zkl
def Zkb : C :=
 .seq (.reg false [.V 35 (.fa 1 (.t 4)),.V 36 (.ld none (.t 35)),.V 37 (.len (.t 36)),.V 38 (.mv (.c (.int .i64 0)))] [0,4,9,10,11,36,37,38] [4,5001]) (.block 2 (.loop Zky))
def Zfh : C :=
 .reg false [.V 62 (.bin .add (.t 11) (.c (.int .i64 1))),.V 11 (.mv (.t 62))] [0,9,10,11] []
def Zko : C :=
 .seq (.reg false [.V 12 (.bin .lss (.t 11) (.t 10))] [0,9,10,11,12] []) (.seq (.cond (.t 12) .skip (.exit 0)) (.seq (.block 1 (.seq (.reg false [.V 13 (.mv (.t 11)),.V 14 (.ia 2 (.t 9) (.t 11)),.V 15 (.ld (some 2) (.t 14)),.W 4 (.alloc 2 (.agg [.str [],.nils 1])),.V 3 (.asg (.t 13)),⟨none,true,.sto 2 (.t 4) (.t 15),none,false,[]⟩] [0,3,4,9,10,11] [4,5001]) (.seq (.seq (.reg true [.V 16 (.fa 0 (.t 4)),.V 17 (.ld none (.t 16)),.V 18 (.call (.c (.fn 24 [])) [.t 17]),.V 19 (.un .not (.t 18)),.V 20 (.mv (.t 19)),.G 21 (.mv (.t 3)) 4 false,.G 22 (.bin .gtr (.t 21) (.c (.int .i64 0))) 4 false,.G 23 (.mv (.t 22)) 4 false,.G 24 (.mv (.t 0)) 7 true,.G 25 (.mv (.t 3)) 7 true,.G 26 (.bin .sub (.t 25) (.c (.int .i64 1))) 7 true,.G 27 (.ia 2 (.t 24) (.t 26)) 7 true,.G 28 (.fa 0 (.t 27)) 7 true,.G 29 (.ld none (.t 28)) 7 true,.G 30 (.fa 0 (.t 4)) 7 true,.G 31 (.ld none (.t 30)) 7 true,.G 32 (.bin .geq (.t 29) (.t 31)) 7 true,.G 33 (.pick (.t 23) (.t 32) (.c (.bool false))) 4 false,.V 34 (.pick (.t 20) (.c (.bool true)) (.t 33))] [0,4,9,10,11,34] [4,5001]) (.cond (.t 34) (.seq (.reg false [.V 2 (.asg (.c (.bool false)))] [2] []) .ret) .skip)) (.norm [0,4,9,10,11] [4,5001] Zkb)))) Zfh))
def Zdy : C :=
 .norm [0,9,10,11] [] Zko
def Zki : C :=
 .seq (.reg false [.V 66 (.bin .lss (.t 65) (.t 64))] [0,63,64,65,66] []) (.seq (.cond (.t 66) .skip (.exit 4)) (.seq (.block 5 (.seq (.reg false [.V 67 (.ia 2 (.t 63) (.t 65)),.V 68 (.ld (some 2) (.t 67)),.W 8 (.alloc 2 (.agg [.str [],.nils 1])),⟨none,true,.sto 2 (.t 8) (.t 68),none,false,[]⟩] [0,8,63,64,65] [8,9001]) (.seq (.reg true [.V 69 (.mv (.t 0)),.V 70 (.fa 0 (.t 8)),.V 71 (.ld none (.t 70)),.V 72 (.call (.c (.fn 816 [])) [.t 69,.t 71]),.V 73 (.fa 0 (.t 8)),.V 74 (.ld none (.t 73)),.V 75 (.call (.c (.fn 985 [])) [.t 72,.t 74])] [0,63,64,65,75] []) (.cond (.t 75) (.seq (.reg false [.V 2 (.asg (.c (.bool false)))] [2] []) .ret) .skip)))) (.reg false [.V 76 (.bin .add (.t 65) (.c (.int .i64 1))),.V 65 (.mv (.t 76))] [0,63,64,65] [])))
def Zkm : C :=
 .norm [0,63,64,65] [] Zki
def Zkv : C :=
 .seq (.reg false [.V 77 (.mv (.t 0)),.V 78 (.len (.t 77)),.V 79 (.call (.c (.fn 21 [])) [.t 78,.c (.int .i64 12)]),.V 2 (.asg (.t 79))] [2] []) .ret
def Zdw : C :=
 .seq (.seq (.reg false [.V 63 (.mv (.t 0)),.V 64 (.len (.t 63)),.V 65 (.mv (.c (.int .i64 0)))] [0,63,64,65] []) (.block 4 (.loop Zkm))) Zkv
def Zcf : Fn := { np := 1,io := [],res := [.t 2],own := [false],body :=
 (.seq (.reg false [.V 2 (.asg (.c (.bool false)))] [0] []) (.seq (.seq (.reg false [.V 9 (.mv (.t 0)),.V 10 (.len (.t 9)),.V 11 (.mv (.c (.int .i64 0)))] [0,9,10,11] []) (.block 0 (.loop Zdy))) Zdw)) }
noncomputable def Zbx : List (Nat × Callee) := [(21,Zis),(24,Ze0),(815,Zdl),(816,Zh8),(985,Zaw)]
def Zcq : List (Nat × ET) := [(9,T_Role),(24,T_Role),(36,(.one .str)),(47,(.one .str)),(56,T_Role),(63,T_Role),(69,T_Role),(72,(.one .str)),(77,T_Role)]
noncomputable def Zd3 : Callee := Zad Zbx Zcq Zcf [.d (.one (.sl T_Role))] [.d (.one .bool)] []
noncomputable def Zfb (a0 : List T_Role.ty) : Option (Bool) := Zd3.f (a0,())
noncomputable def Zar  (v0 : List T_Role.ty) (v9 : List T_Role.ty) (v10 : Int) (v11 : Int) : Option (Bool) :=
 goL Zbx Zcq (vleave Zcf [.d (.one (.sl T_Role))] [.d (.one .bool)] [] []) [.c Zko,.l Zdy,.e 0,.c Zdw]
  ⟨[(0,.sl T_Role v0),(9,.sl T_Role v9),(10,.int .i64 v10),(11,.int .i64 v11)],[]⟩
noncomputable def Zff  (v0 : List T_Role.ty) (v9 : List T_Role.ty) (v10 : Int) (v11 : Int) (r4_0 : List UInt8) (r4_1 : List (List UInt8)) : Option (Bool) :=
 goL Zbx Zcq (vleave Zcf [.d (.one (.sl T_Role))] [.d (.one .bool)] [] []) [.c Zkb,.e 1,.c Zfh,.l Zdy,.e 0,.c Zdw]
  ⟨[(0,.sl T_Role v0),(4,.loc 4 0 0),(9,.sl T_Role v9),(10,.int .i64 v10),(11,.int .i64 v11)],[(4,some (.var 2 (.agg [.str r4_0,.sl (.one .str) r4_1]))),(5001,none)]⟩
noncomputable def Za8  (v0 : List T_Role.ty) (v63 : List T_Role.ty) (v64 : Int) (v65 : Int) : Option (Bool) :=
 goL Zbx Zcq (vleave Zcf [.d (.one (.sl T_Role))] [.d (.one .bool)] [] []) [.c Zki,.l Zkm,.e 4,.c Zkv]
  ⟨[(0,.sl T_Role v0),(63,.sl T_Role v63),(64,.int .i64 v64),(65,.int .i64 v65)],[]⟩
noncomputable def Zaq  (v0 : List T_Role.ty) (v9 : List T_Role.ty) (v10 : Int) (v11 : Int) (v36 : List (List UInt8)) (v37 : Int) (v38 : Int) (r4_0 : List UInt8) (r4_1 : List (List UInt8)) : Option (Bool) :=
 goL Zbx Zcq (vleave Zcf [.d (.one (.sl T_Role))] [.d (.one .bool)] [] []) [.c Zkl,.l Zky,.e 2,.e 1,.c Zfh,.l Zdy,.e 0,.c Zdw]
  ⟨[(0,.sl T_Role v0),(4,.loc 4 0 0),(9,.sl T_Role v9),(10,.int .i64 v10),(11,.int .i64 v11),(36,.sl (.one .str) v36),(37,.int .i64 v37),(38,.int .i64 v38)],[(4,some (.var 2 (.agg [.str r4_0,.sl (.one .str) r4_1]))),(5001,none)]⟩
theorem Ztj (a0 : List T_Role.ty) : Zfb a0 =
 Zar a0 a0 (a0.length : Int) 0 :=
 (mk_f _ _ _ _ _ _ _ 4000).trans (by kernel_rfl)
theorem Zhx  (v0 : List T_Role.ty) (v9 : List T_Role.ty) (v10 : Int) (v11 : Int) : Zar v0 v9 v10 v11 =
 if decide (v11 < v10) then
  if decide (0 ≤ v11) then
   (v9[v11.toNat]?).bind fun x1 =>
    (Zcb x1.1).bind fun x2 =>
     if (!x2) then
      some false
     else
      if decide (v11 > 0) then
       if decide (0 ≤ IntKind.i64.wrap (v11 - 1)) then
        (v0[(IntKind.i64.wrap (v11 - 1)).toNat]?).bind fun x3 =>
         if (!Op.bytesLess x3.1 x1.1) then
          some false
         else
          Zff v0 v9 v10 v11 x1.1 x1.2.1
       else
        none
      else
       Zff v0 v9 v10 v11 x1.1 x1.2.1
  else
   none
 else
  Za8 v0 v0 (v0.length : Int) 0 :=
 (goL_dn _ _ _ 4000 _ _).trans (by kernel_rfl)
theorem Zpm  (v0 : List T_Role.ty) (v9 : List T_Role.ty) (v10 : Int) (v11 : Int) (r4_0 : List UInt8) (r4_1 : List (List UInt8)) : Zff v0 v9 v10 v11 r4_0 r4_1 =
 Zaq v0 v9 v10 v11 r4_1 (r4_1.length : Int) 0 r4_0 r4_1 :=
 (goL_dn _ _ _ 4000 _ _).trans (by kernel_rfl)
theorem Zhq  (v0 : List T_Role.ty) (v63 : List T_Role.ty) (v64 : Int) (v65 : Int) : Za8 v0 v63 v64 v65 =
 if decide (v65 < v64) then
  if decide (0 ≤ v65) then
   (v63[v65.toNat]?).bind fun x1 =>
    (Zan v0 x1.1).bind fun x2 =>
     (Zab x2 x1.1).bind fun x3 =>
      if x3 then
       some false
      else
       Za8 v0 v63 v64 (IntKind.i64.wrap (v65 + 1))
  else
   none
 else
  (Zqa (v0.length : Int) 12).bind fun x4 =>
   some x4 :=
 (goL_dn _ _ _ 4000 _ _).trans (by kernel_rfl)
theorem Zhr  (v0 : List T_Role.ty) (v9 : List T_Role.ty) (v10 : Int) (v11 : Int) (v36 : List (List UInt8)) (v37 : Int) (v38 : Int) (r4_0 : List UInt8) (r4_1 : List (List UInt8)) : Zaq v0 v9 v10 v11 v36 v37 v38 r4_0 r4_1 =
 if decide (v38 < v37) then
  if decide (0 ≤ v38) then
   (v36[v38.toNat]?).bind fun x1 =>
    if decide (v38 > 0) then
     if decide (0 ≤ IntKind.i64.wrap (v38 - 1)) then
      (r4_1[(IntKind.i64.wrap (v38 - 1)).toNat]?).bind fun x2 =>
       if (!Op.bytesLess x2 x1) then
        some false
       else
        (Zbl v0 x1).bind fun x3 =>
         if decide (x3 < 0) then
          some false
         else
          Zaq v0 v9 v10 v11 v36 v37 (IntKind.i64.wrap (v38 + 1)) r4_0 r4_1
     else
      none
    else
     (Zbl v0 x1).bind fun x4 =>
      if decide (x4 < 0) then
       some false
      else
       Zaq v0 v9 v10 v11 v36 v37 (IntKind.i64.wrap (v38 + 1)) r4_0 r4_1
  else
   none
 else
  Zar v0 v9 v10 (IntKind.i64.wrap (v11 + 1)) :=
 (goL_dn _ _ _ 4000 _ _).trans (by kernel_rfl)
def Zxo : Fn := { np := 3,io := [],res := [.t 6],own := [false],body :=
 (.seq (.reg false [.V 6 (.asg (.c (.bool false)))] [0,1,2] []) (.seq (.reg false [.V 7 (.mv (.t 1)),.V 8 (.mv (.t 0)),.V 9 (.bin .leq (.t 7) (.t 8)),.V 10 (.mv (.t 9)),.G 11 (.mv (.t 0)) 3 true,.G 12 (.mv (.t 2)) 3 true,.G 13 (.bin .leq (.t 11) (.t 12)) 3 true,.V 14 (.pick (.t 10) (.t 13) (.c (.bool false))),.V 6 (.asg (.t 14))] [6] []) .ret)) }
noncomputable def Zra : List (Nat × Callee) := []
def Zz4 : List (Nat × ET) := []
noncomputable def Zk8 : Callee := Zad Zra Zz4 Zxo [.d (.one (.int .i64)),.d (.one (.int .i64)),.d (.one (.int .i64))] [.d (.one .bool)] []
noncomputable def Zul (a0 : Int) (a1 : Int) (a2 : Int) : Option (Bool) := Zk8.f (a0,a1,a2,())
theorem Zjz (a0 : Int) (a1 : Int) (a2 : Int) : Zul a0 a1 a2 =
 if decide (a1 ≤ a0) then
  some (decide (a0 ≤ a2))
 else
  some false :=
 (mk_f _ _ _ _ _ _ _ 4000).trans (by kernel_rfl)
def Zv3 : Fn := { np := 1,io := [],res := [.t 2],own := [false],body :=
 (.seq (.reg false [.V 2 (.asg (.c (.bool false)))] [0] []) (.seq (.reg false [.V 3 (.mv (.t 0)),.V 4 (.call (.c (.fn 23 [])) [.t 3,.c (.int .i64 1),.c (.int .i64 3)]),.V 2 (.asg (.t 4))] [2] []) .ret)) }
noncomputable def Zn9 : List (Nat × Callee) := [(23,Zk8)]
def Zwy : List (Nat × ET) := []
noncomputable def Zdq : Callee := Zad Zn9 Zwy Zv3 [.d (.one (.int .i64))] [.d (.one .bool)] []
noncomputable def Zez (a0 : Int) : Option (Bool) := Zdq.f (a0,())
theorem Zg4 (a0 : Int) : Zez a0 =
 (Zul a0 1 3).bind fun x1 =>
  some x1 :=
 (mk_f _ _ _ _ _ _ _ 4000).trans (by kernel_rfl)
def Zwr : Fn := { np := 2,io := [],res := [.t 4],own := [false],body :=
 (.seq (.reg false [.W 3 (.box 3 (.t 1)),.V 4 (.asg (.c (.bool false)))] [0,3] [3]) (.seq (.reg false [.V 5 (.mv (.t 0)),.V 6 (.fa 0 (.t 3)),.V 7 (.ld none (.t 6)),.V 8 (.call (.c (.fn 815 [])) [.t 5,.t 7]),.V 9 (.bin .geq (.t 8) (.c (.int .i64 0))),.V 10 (.mv (.t 9)),.G 11 (.fa 1 (.t 3)) 5 true,.G 12 (.ld none (.t 11)) 5 true,.G 13 (.call (.c (.fn 24 [])) [.t 12]) 5 true,.V 14 (.pick (.t 10) (.t 13) (.c (.bool false))),.V 15 (.mv (.t 14)),.G 16 (.fa 2 (.t 3)) 10 true,.G 17 (.ld none (.t 16)) 10 true,.G 18 (.call (.c (.fn 813 [])) [.t 17]) 10 true,.V 19 (.pick (.t 15) (.t 18) (.c (.bool false))),.V 4 (.asg (.t 19))] [4] []) .ret)) }
noncomputable def Zpj : List (Nat × Callee) := [(24,Ze0),(813,Zdq),(815,Zdl)]
def Zx0 : List (Nat × ET) := [(5,T_Role)]
noncomputable def Zjy : Callee := Zad Zpj Zx0 Zwr [.d (.one (.sl T_Role)),.d Zaa] [.d (.one .bool)] []
noncomputable def Znc (a0 : List T_Role.ty) (a1 : Zaa.ty) : Option (Bool) := Zjy.f (a0,a1,())
theorem Zxh (a0 : List T_Role.ty) (a1 : Zaa.ty) : Znc a0 a1 =
 (Zbl a0 a1.1).bind fun x1 =>
  if decide (x1 ≥ 0) then
   (Zcb a1.2.1).bind fun x2 =>
    if x2 then
     (Zez a1.2.2.1).bind fun x3 =>
      some x3
    else
     some false
  else
   some false :=
 (mk_f _ _ _ _ _ _ _ 4000).trans (by kernel_rfl)
noncomputable def Zgt : Callee := Z04
noncomputable def strings_Compare (a0 : List UInt8) (a1 : List UInt8) : Option (Int) := Zgt.f (a0,a1,())
theorem Zkw (a0 : List UInt8) (a1 : List UInt8) : strings_Compare a0 a1 = some (Lib.compareBytes a0 a1) := rfl
def Zpf : Fn := { np := 2,io := [],res := [.t 4],own := [false],body :=
 (.seq (.reg false [.W 2 (.box 3 (.t 0)),.W 3 (.box 3 (.t 1)),.V 4 (.asg (.c (.int .i64 0)))] [2,3] [2,3]) (.seq (.seq (.reg false [.V 7 (.fa 0 (.t 2)),.V 8 (.ld none (.t 7)),.V 9 (.fa 0 (.t 3)),.V 10 (.ld none (.t 9)),.V 11 (.call (.c (.fn 950 [])) [.t 8,.t 10]),.V 5 (.asg (.t 11))] [2,3,5] [2,3]) (.seq (.reg false [.V 12 (.mv (.t 5)),.V 13 (.bin .neq (.t 12) (.c (.int .i64 0)))] [2,3,5,13] [2,3]) (.cond (.t 13) (.seq (.reg false [.V 14 (.mv (.t 5)),.V 4 (.asg (.t 14))] [4] []) .ret) .skip))) (.seq (.seq (.reg false [.V 15 (.fa 1 (.t 2)),.V 16 (.ld none (.t 15)),.V 17 (.fa 1 (.t 3)),.V 18 (.ld none (.t 17)),.V 19 (.call (.c (.fn 950 [])) [.t 16,.t 18]),.V 6 (.asg (.t 19))] [2,3,6] [2,3]) (.seq (.reg false [.V 20 (.mv (.t 6)),.V 21 (.bin .neq (.t 20) (.c (.int .i64 0)))] [2,3,6,21] [2,3]) (.cond (.t 21) (.seq (.reg false [.V 22 (.mv (.t 6)),.V 4 (.asg (.t 22))] [4] []) .ret) .skip))) (.seq (.reg false [.V 23 (.fa 2 (.t 2)),.V 24 (.ld none (.t 23)),.V 25 (.fa 2 (.t 3)),.V 26 (.ld none (.t 25)),.V 27 (.bin .sub (.t 24) (.t 26)),.V 4 (.asg (.t 27))] [4] []) .ret)))) }
noncomputable def Zio : List (Nat × Callee) := [(950,Zgt)]
def Zqq : List (Nat × ET) := []
noncomputable def Zes : Callee := Zad Zio Zqq Zpf [.d Zaa,.d Zaa] [.d (.one (.int .i64))] []
noncomputable def Zfr (a0 : Zaa.ty) (a1 : Zaa.ty) : Option (Int) := Zes.f (a0,a1,())
theorem Zpn (a0 : Zaa.ty) (a1 : Zaa.ty) : Zfr a0 a1 =
 (strings_Compare a0.1 a1.1).bind fun x1 =>
  if (x1 != 0) then
   some x1
  else
   (strings_Compare a0.2.1 a1.2.1).bind fun x2 =>
    if (x2 != 0) then
     some x2
    else
     some (IntKind.i64.wrap (a0.2.2.1 - a1.2.2.1)) :=
 (mk_f _ _ _ _ _ _ _ 4000).trans (by kernel_rfl)
def Zjd : C :=
 .seq (.reg false [.V 19 (.bin .lss (.t 18) (.t 17))] [0,1,16,17,18,19] []) (.seq (.cond (.t 19) .skip (.exit 0)) (.seq (.block 1 (.seq (.reg false [.V 20 (.mv (.t 18)),.V 21 (.ia 3 (.t 16) (.t 18)),.V 22 (.ld (some 3) (.t 21)),.W 6 (.alloc 3 (.agg [.str [],.str [],.int .i64 0])),.V 5 (.asg (.t 20)),⟨none,true,.sto 3 (.t 6) (.t 22),none,false,[]⟩] [0,1,5,6,16,17,18] [6]) (.seq (.reg true [.V 23 (.mv (.t 0)),.V 24 (.ld (some 3) (.t 6)),.V 25 (.call (.c (.fn 735 [])) [.t 23,.t 24]),.V 26 (.un .not (.t 25)),.V 27 (.mv (.t 26)),.G 28 (.mv (.t 5)) 4 false,.G 29 (.bin .gtr (.t 28) (.c (.int .i64 0))) 4 false,.G 30 (.mv (.t 29)) 4 false,.G 31 (.mv (.t 1)) 7 true,.G 32 (.mv (.t 5)) 7 true,.G 33 (.bin .sub (.t 32) (.c (.int .i64 1))) 7 true,.G 34 (.ia 3 (.t 31) (.t 33)) 7 true,.G 35 (.ld (some 3) (.t 34)) 7 true,.G 36 (.ld (some 3) (.t 6)) 7 true,.G 37 (.call (.c (.fn 734 [])) [.t 35,.t 36]) 7 true,.G 38 (.bin .geq (.t 37) (.c (.int .i64 0))) 7 true,.G 39 (.pick (.t 30) (.t 38) (.c (.bool false))) 4 false,.V 40 (.pick (.t 27) (.c (.bool true)) (.t 39))] [0,1,16,17,18,40] []) (.cond (.t 40) (.seq (.reg false [.V 4 (.asg (.c (.bool false)))] [4] []) .ret) .skip)))) (.reg false [.V 41 (.bin .add (.t 18) (.c (.int .i64 1))),.V 18 (.mv (.t 41))] [0,1,16,17,18] [])))
def Zi3 : C :=
 .norm [0,1,16,17,18] [] Zjd
def Zi2 : C :=
 .seq (.reg false [.V 4 (.asg (.c (.bool true)))] [4] []) .ret
def Zi8 : C :=
 .seq (.seq (.reg false [.V 16 (.mv (.t 1)),.V 17 (.len (.t 16)),.V 18 (.mv (.c (.int .i64 0)))] [0,1,16,17,18] []) (.block 0 (.loop Zi3))) Zi2
def Ze2 : Fn := { np := 2,io := [],res := [.t 4],own := [false],body :=
 (.seq (.reg false [.V 4 (.asg (.c (.bool false)))] [0,1] []) (.seq (.seq (.reg false [.V 7 (.mv (.t 0)),.V 8 (.call (.c (.fn 817 [])) [.t 7]),.V 9 (.un .not (.t 8)),.V 10 (.mv (.t 9)),.G 11 (.mv (.t 1)) 3 false,.G 12 (.len (.t 11)) 3 false,.G 13 (.call (.c (.fn 21 [])) [.t 12,.c (.int .i64 48)]) 3 false,.G 14 (.un .not (.t 13)) 3 false,.V 15 (.pick (.t 10) (.c (.bool true)) (.t 14))] [0,1,15] []) (.cond (.t 15) (.seq (.reg false [.V 4 (.asg (.c (.bool false)))] [4] []) .ret) .skip)) (.norm [0,1] [] Zi8))) }
noncomputable def Zdt : List (Nat × Callee) := [(21,Zis),(734,Zes),(735,Zjy),(817,Zd3)]
def Zfk : List (Nat × ET) := [(7,T_Role),(11,Zaa),(16,Zaa),(23,T_Role),(31,Zaa)]
noncomputable def Zfv : Callee := Zad Zdt Zfk Ze2 [.d (.one (.sl T_Role)),.d (.one (.sl Zaa))] [.d (.one .bool)] []
noncomputable def Zbf (a0 : List T_Role.ty) (a1 : List Zaa.ty) : Option (Bool) := Zfv.f (a0,a1,())
noncomputable def Zjc  (v0 : List T_Role.ty) (v1 : List Zaa.ty) : Option (Bool) :=
 goL Zdt Zfk (vleave Ze2 [.d (.one (.sl T_Role)),.d (.one (.sl Zaa))] [.d (.one .bool)] [] []) [.c Zi8]
  ⟨[(0,.sl T_Role v0),(1,.sl Zaa v1)],[]⟩
noncomputable def Zav  (v0 : List T_Role.ty) (v1 : List Zaa.ty) (v16 : List Zaa.ty) (v17 : Int) (v18 : Int) : Option (Bool) :=
 goL Zdt Zfk (vleave Ze2 [.d (.one (.sl T_Role)),.d (.one (.sl Zaa))] [.d (.one .bool)] [] []) [.c Zjd,.l Zi3,.e 0,.c Zi2]
  ⟨[(0,.sl T_Role v0),(1,.sl Zaa v1),(16,.sl Zaa v16),(17,.int .i64 v17),(18,.int .i64 v18)],[]⟩
theorem Zr5 (a0 : List T_Role.ty) (a1 : List Zaa.ty) : Zbf a0 a1 =
 (Zfb a0).bind fun x1 =>
  if (!x1) then
   some false
  else
   (Zqa (a1.length : Int) 48).bind fun x2 =>
    if (!x2) then
     some false
    else
     Zjc a0 a1 :=
 (mk_f _ _ _ _ _ _ _ 4000).trans (by kernel_rfl)
theorem Zo0  (v0 : List T_Role.ty) (v1 : List Zaa.ty) : Zjc v0 v1 =
 Zav v0 v1 v1 (v1.length : Int) 0 :=
 (goL_dn _ _ _ 4000 _ _).trans (by kernel_rfl)
theorem Zgx  (v0 : List T_Role.ty) (v1 : List Zaa.ty) (v16 : List Zaa.ty) (v17 : Int) (v18 : Int) : Zav v0 v1 v16 v17 v18 =
 if decide (v18 < v17) then
  if decide (0 ≤ v18) then
   (v16[v18.toNat]?).bind fun x1 =>
    (Znc v0 x1).bind fun x2 =>
     if (!x2) then
      some false
     else
      if decide (v18 > 0) then
       if decide (0 ≤ IntKind.i64.wrap (v18 - 1)) then
        (v1[(IntKind.i64.wrap (v18 - 1)).toNat]?).bind fun x3 =>
         (Zfr x3 x1).bind fun x4 =>
          if decide (x4 ≥ 0) then
           some false
          else
           Zav v0 v1 v16 v17 (IntKind.i64.wrap (v18 + 1))
       else
        none
      else
       Zav v0 v1 v16 v17 (IntKind.i64.wrap (v18 + 1))
  else
   none
 else
  some true :=
 (goL_dn _ _ _ 4000 _ _).trans (by kernel_rfl)
noncomputable def Zhe : Callee := rwC Zan Zab
noncomputable def Zjv (a0 : List T_Role.ty) (a1 : List Zaa.ty) (a2 : List Zoj.ty) : Option (List (List UInt8)) := Zhe.f (a0,a1,a2,())
theorem Zuc (a0 : List T_Role.ty) (a1 : List Zaa.ty) (a2 : List Zoj.ty) : Zjv a0 a1 a2 = rwF Zan Zab a0 a1 a2 := rfl
def Zxr : Fn := { np := 4,io := [],res := [.t 8,.t 9],own := [false,false],body :=
 (.seq (.reg false [.W 8 (.asg (.c (.nils 1))),.V 9 (.asg (.c (.int .i64 0)))] [0,1,2,3] []) (.seq (.seq (.reg false [.V 10 (.mv (.t 0)),.V 11 (.mv (.t 1)),.V 12 (.call (.c (.fn 736 [])) [.t 10,.t 11]),.V 13 (.un .not (.t 12))] [0,1,2,3,13] []) (.cond (.t 13) (.seq (.reg false [.W 8 (.asg (.c (.nils 1))),.V 9 (.asg (.c (.int .i64 1)))] [8,9] [8]) .ret) .skip)) (.seq (.seq (.reg false [.V 14 (.mv (.t 3)),.V 15 (.call (.c (.fn 813 [])) [.t 14]),.V 16 (.un .not (.t 15))] [0,1,2,3,16] []) (.cond (.t 16) (.seq (.reg false [.W 8 (.asg (.c (.nils 1))),.V 9 (.asg (.c (.int .i64 2)))] [8,9] [8]) .ret) .skip)) (.seq (.reg false [.V 17 (.mv (.t 0)),.V 18 (.mv (.t 1)),.V 19 (.mv (.t 2)),.V 20 (.mv (.t 3)),.V 21 (.build [.str [],.int .i64 0] [(0,1,.t 19),(1,1,.t 20)]),.V 22 (.bsl 2 (.agg [.str [],.int .i64 0]) 1 [(0,.t 21)]),.W 23 (.call (.c (.fn 745 [])) [.t 17,.t 18,.t 22]),.W 8 (.asg (.t 23)),.V 9 (.asg (.c (.int .i64 0)))] [8,9] [8]) .ret)))) }
noncomputable def Zrg : List (Nat × Callee) := [(736,Zfv),(745,Zhe),(813,Zdq)]
def Zzr : List (Nat × ET) := [(8,(.one .str)),(10,T_Role),(11,Zaa),(17,T_Role),(18,Zaa),(22,Zoj),(23,(.one .str))]
noncomputable def Zk5 : Callee := Zad Zrg Zzr Zxr [.d (.one (.sl T_Role)),.d (.one (.sl Zaa)),.d (.one .str),.d (.one (.int .i64))] [.d (.one (.sl (.one .str))),.d (.one (.int .i64))] []
noncomputable def Zgy (a0 : List T_Role.ty) (a1 : List Zaa.ty) (a2 : List UInt8) (a3 : Int) : Option (List (List UInt8) × Int) := Zk5.f (a0,a1,a2,a3,())
theorem Zxs (a0 : List T_Role.ty) (a1 : List Zaa.ty) (a2 : List UInt8) (a3 : Int) : Zgy a0 a1 a2 a3 =
 (Zbf a0 a1).bind fun x1 =>
  if (!x1) then
   some ([],1)
  else
   (Zez a3).bind fun x2 =>
    if (!x2) then
     some ([],2)
    else
     (Zjv a0 a1 [(a2,a3,())]).bind fun x3 =>
      some (x3,0) :=
 (mk_f _ _ _ _ _ _ _ 4000).trans (by kernel_rfl)
noncomputable def Zhp : Callee := lrC Zgy Zan Zab
noncomputable def Zfz (a0 : List T_Role.ty) (a1 : List Zaa.ty) (a2 : List UInt8) (a3 : Int) : Option (List UInt8 × Int) := Zhp.f (a0,a1,a2,a3,())
theorem Zlx (a0 : List T_Role.ty) (a1 : List Zaa.ty) (a2 : List UInt8) (a3 : Int) : Zfz a0 a1 a2 a3 = lrF Zgy Zan Zab a0 a1 a2 a3 := rfl
noncomputable def Zfe : Callee := iaC Zbf Zbl Zan Zab
noncomputable def Zbk (a0 : List T_Role.ty) (a1 : List Zaa.ty) (a2 : List UInt8) (a3 : List UInt8) (a4 : Int) : Option (Bool) := Zfe.f (a0,a1,a2,a3,a4,())
theorem Zrw (a0 : List T_Role.ty) (a1 : List Zaa.ty) (a2 : List UInt8) (a3 : List UInt8) (a4 : Int) : Zbk a0 a1 a2 a3 a4 = iaF Zbf Zbl Zan Zab a0 a1 a2 a3 a4 := rfl
def Zl8 : C :=
 .seq (.seq (.reg false [.V 6 (.mv (.t 5)),.V 7 (.mv (.t 0)),.V 8 (.len (.t 7)),.V 9 (.bin .lss (.t 6) (.t 8))] [0,1,5,9] []) (.cond (.t 9) .skip (.exit 0))) (.seq (.block 1 (.seq (.reg false [.V 12 (.mv (.t 0)),.V 13 (.mv (.t 5)),.V 14 (.ia 1 (.t 12) (.t 13)),.V 15 (.ld none (.t 14)),.V 16 (.mv (.t 1)),.V 17 (.bin .eql (.t 15) (.t 16))] [0,1,5,17] []) (.cond (.t 17) (.seq (.reg false [.V 4 (.asg (.c (.bool true)))] [4] []) .ret) .skip))) (.reg false [.V 10 (.mv (.t 5)),.V 11 (.bin .add (.t 10) (.c (.int .i64 1))),.V 5 (.asg (.t 11))] [0,1,5] []))
def Zl5 : C :=
 .norm [0,1,5] [] Zl8
def Zma : C :=
 .seq (.reg false [.V 4 (.asg (.c (.bool false)))] [4] []) .ret
def Zl4 : Fn := { np := 2,io := [],res := [.t 4],own := [false],body :=
 (.seq (.reg false [.V 4 (.asg (.c (.bool false)))] [0,1] []) (.seq (.seq (.reg false [.V 5 (.asg (.c (.int .i64 0)))] [0,1,5] []) (.block 0 (.loop Zl5))) Zma)) }
noncomputable def Zg9 : List (Nat × Callee) := []
def Znd : List (Nat × ET) := [(7,(.one .str)),(12,(.one .str))]
noncomputable def Zg5 : Callee := Zad Zg9 Znd Zl4 [.d (.one (.sl (.one .str))),.d (.one .str)] [.d (.one .bool)] []
noncomputable def Zcw (a0 : List (List UInt8)) (a1 : List UInt8) : Option (Bool) := Zg5.f (a0,a1,())
noncomputable def Zd5  (v0 : List (List UInt8)) (v1 : List UInt8) (v5 : Int) : Option (Bool) :=
 goL Zg9 Znd (vleave Zl4 [.d (.one (.sl (.one .str))),.d (.one .str)] [.d (.one .bool)] [] []) [.c Zl8,.l Zl5,.e 0,.c Zma]
  ⟨[(0,.sl (.one .str) v0),(1,.str v1),(5,.int .i64 v5)],[]⟩
theorem Zub (a0 : List (List UInt8)) (a1 : List UInt8) : Zcw a0 a1 =
 Zd5 a0 a1 0 :=
 (mk_f _ _ _ _ _ _ _ 4000).trans (by kernel_rfl)
theorem Zh5  (v0 : List (List UInt8)) (v1 : List UInt8) (v5 : Int) : Zd5 v0 v1 v5 =
 if decide (v5 < (v0.length : Int)) then
  if decide (0 ≤ v5) then
   (v0[v5.toNat]?).bind fun x1 =>
    if (x1 == v1) then
     some true
    else
     Zd5 v0 v1 (IntKind.i64.wrap (v5 + 1))
  else
   none
 else
  some false :=
 (goL_dn _ _ _ 4000 _ _).trans (by kernel_rfl)
def Zr7 : Fn := { np := 2,io := [],res := [.t 4,.t 5],own := [false,false],body :=
 (.seq (.reg false [.W 4 (.asg (.c (.nils 1))),.V 5 (.asg (.c (.int .i64 0)))] [0,1] []) (.seq (.seq (.reg false [.V 6 (.mv (.t 0)),.V 7 (.call (.c (.fn 817 [])) [.t 6]),.V 8 (.un .not (.t 7))] [0,1,8] []) (.cond (.t 8) (.seq (.reg false [.W 4 (.asg (.c (.nils 1))),.V 5 (.asg (.c (.int .i64 1)))] [4,5] [4]) .ret) .skip)) (.seq (.seq (.reg false [.V 9 (.mv (.t 0)),.V 10 (.mv (.t 1)),.V 11 (.call (.c (.fn 815 [])) [.t 9,.t 10]),.V 12 (.bin .lss (.t 11) (.c (.int .i64 0)))] [0,1,12] []) (.cond (.t 12) (.seq (.reg false [.W 4 (.asg (.c (.nils 1))),.V 5 (.asg (.c (.int .i64 3)))] [4,5] [4]) .ret) .skip)) (.seq (.reg false [.V 13 (.mv (.t 0)),.V 14 (.mv (.t 1)),.V 15 (.call (.c (.fn 816 [])) [.t 13,.t 14]),.W 4 (.asg (.t 15)),.V 5 (.asg (.c (.int .i64 0)))] [4,5] [4]) .ret)))) }
noncomputable def Zlo : List (Nat × Callee) := [(815,Zdl),(816,Zh8),(817,Zd3)]
def Ztz : List (Nat × ET) := [(4,(.one .str)),(6,T_Role),(9,T_Role),(13,T_Role),(15,(.one .str))]
noncomputable def Zgi : Callee := Zad Zlo Ztz Zr7 [.d (.one (.sl T_Role)),.d (.one .str)] [.d (.one (.sl (.one .str))),.d (.one (.int .i64))] []
noncomputable def Zfa (a0 : List T_Role.ty) (a1 : List UInt8) : Option (List (List UInt8) × Int) := Zgi.f (a0,a1,())
theorem Zs4 (a0 : List T_Role.ty) (a1 : List UInt8) : Zfa a0 a1 =
 (Zfb a0).bind fun x1 =>
  if (!x1) then
   some ([],1)
  else
   (Zbl a0 a1).bind fun x2 =>
    if decide (x2 < 0) then
     some ([],3)
    else
     (Zan a0 a1).bind fun x3 =>
      some ((x3.take x3.length),0) :=
 (mk_f _ _ _ _ _ _ _ 4000).trans (by kernel_rfl)
def Zro : Fn := { np := 1,io := [true],res := [.t 2],own := [false],body :=
 (.seq (.reg false [.V 2 (.asg (.c (.str [])))] [0] [0,1000]) (.seq (.reg false [.V 3 (.mv (.t 0)),.V 4 (.bsl 1 (.str []) 6 [(0,.c (.str [97,103,101,110,116])),(1,.c (.str [108,117,116,104,105,101,114])),(2,.c (.str [109,97,107,101,114])),(3,.c (.str [112,117,112,105,108])),(4,.c (.str [118,97,114,110,105,115,104,101,114])),(5,.c (.str [122,122]))]),.W 5 (.call (.c (.fn 557 [])) [.t 3,.t 4]),.V 2 (.asg (.t 5))] [0,2] [0,1000]) .ret)) }
noncomputable def Zkc : List (Nat × Callee) := [(557,Zcd)]
def Zse : List (Nat × ET) := [(4,(.one .str))]
noncomputable def Zfm : Callee := Zad Zkc Zse Zro [.box Zac] [.d (.one .str)] [.box Zac]
noncomputable def Zho (a0 : Zac.ty) : Option (List UInt8 × Zac.ty) := Zfm.f (a0,())
theorem Zrq (a0 : Zac.ty) : Zho a0 =
 (Zbb a0 [[97,103,101,110,116],[108,117,116,104,105,101,114],[109,97,107,101,114],[112,117,112,105,108],[118,97,114,110,105,115,104,101,114],[122,122]]).bind fun x1 =>
  some (x1.1,(x1.2.1,x1.2.2.1,x1.2.2.2.1,())) :=
 (mk_f _ _ _ _ _ _ _ 4000).trans (by kernel_rfl)
def Zqs : Fn := { np := 1,io := [],res := [.t 2,.t 3,.t 4],own := [false,true,false],body :=
 (.seq (.reg false [.W 2 (.asg (.c (.nils 2))),.W 3 (.asg (.c (.nils 3))),.V 4 (.asg (.c (.str [])))] [0] []) (.seq (.reg false [.V 8 (.mv (.t 0)),.W 9 (.call (.c (.fn 441 [])) [.t 8]),.V 5 (.asg (.t 9))] [5] [9,10000]) (.seq (.reg false [.V 11 (.mv (.t 5)),.W 12 (.call (.c (.fn 730 [])) [.t 11]),.V 10 (.mv (.t 12)),.V 13 (.ext (.t 10) 0),.V 14 (.ext (.t 10) 1),.W 6 (.asg (.t 13)),.W 7 (.asg (.t 14))] [5,6,7] [6,7,9,10000]) (.seq (.reg false [.V 15 (.mv (.t 6)),.V 16 (.mv (.t 7)),.V 17 (.mv (.t 5)),.W 18 (.call (.c (.fn 818 [])) [.t 17]),.W 2 (.asg (.t 15)),.W 3 (.asg (.t 16)),.V 4 (.asg (.t 18))] [2,3,4] [2,3,6,7]) .ret)))) }
noncomputable def Zjg : List (Nat × Callee) := [(441,Zf1),(730,Zfy),(818,Zfm)]
def Zr4 : List (Nat × ET) := [(2,T_Role),(3,Zaa),(6,T_Role),(7,Zaa),(8,(.one (.int .u8))),(13,T_Role),(14,Zaa),(15,T_Role),(16,Zaa)]
noncomputable def Ze5 : Callee := Zad Zjg Zr4 Zqs [.d (.one (.sl (.one (.int .u8))))] [.d (.one (.sl T_Role)),.tok Zaa,.d (.one .str)] []
noncomputable def Zgp (a0 : List Int) : Option (List T_Role.ty × List Zaa.ty × List UInt8) := Ze5.f (a0,())
theorem Zqc (a0 : List Int) : Zgp a0 =
 (Zia a0).bind fun x1 =>
  (Ziu x1).bind fun x2 =>
   (Zho (x2.2.2.1,x2.2.2.2.1,x2.2.2.2.2.1,())).bind fun x3 =>
    some (x2.1,(x2.2.1.take x2.2.1.length),x3.1) :=
 (mk_f _ _ _ _ _ _ _ 4000).trans (by kernel_rfl)
noncomputable def Zij : Callee := roC Zbf Zbl Zan Zab
noncomputable def Zla (a0 : List T_Role.ty) (a1 : List Zaa.ty) (a2 : List UInt8) : Option (List Zaa.ty × Int) := Zij.f (a0,a1,a2,())
theorem Zva (a0 : List T_Role.ty) (a1 : List Zaa.ty) (a2 : List UInt8) : Zla a0 a1 a2 = roF Zbf Zbl Zan Zab a0 a1 a2 := rfl
def Z4e : Fn := { np := 2,io := [],res := [.t 4],own := [false],body :=
 (.seq (.reg false [.V 4 (.asg (.c (.bool false)))] [0,1] []) (.seq (.reg false [.V 5 (.mv (.t 0)),.V 6 (.bin .geq (.t 5) (.c (.int .i64 0))),.V 7 (.mv (.t 6)),.G 8 (.mv (.t 0)) 2 true,.G 9 (.mv (.t 1)) 2 true,.G 10 (.bin .lss (.t 8) (.t 9)) 2 true,.V 11 (.pick (.t 7) (.t 10) (.c (.bool false))),.V 4 (.asg (.t 11))] [4] []) .ret)) }
noncomputable def Zyq : List (Nat × Callee) := []
def Z55 : List (Nat × ET) := []
noncomputable def Zti : Callee := Zad Zyq Z55 Z4e [.d (.one (.int .i64)),.d (.one (.int .i64))] [.d (.one .bool)] []
noncomputable def Z24 (a0 : Int) (a1 : Int) : Option (Bool) := Zti.f (a0,a1,())
theorem Z4i (a0 : Int) (a1 : Int) : Z24 a0 a1 =
 if decide (a0 ≥ 0) then
  some (decide (a0 < a1))
 else
  some false :=
 (mk_f _ _ _ _ _ _ _ 4000).trans (by kernel_rfl)
def Z1s : Fn := { np := 2,io := [],res := [.t 4],own := [false],body :=
 (.seq (.reg false [.V 4 (.asg (.c (.str [])))] [0,1] []) (.seq (.seq (.reg false [.V 5 (.mv (.t 0)),.V 6 (.mv (.t 1)),.V 7 (.len (.t 6)),.V 8 (.call (.c (.fn 4 [])) [.t 5,.t 7]),.V 9 (.un .not (.t 8))] [0,1,9] []) (.cond (.t 9) (.seq (.reg false [.V 4 (.asg (.c (.str [])))] [4] []) .ret) .skip)) (.seq (.reg false [.V 10 (.mv (.t 1)),.V 11 (.mv (.t 0)),.V 12 (.ia 1 (.t 10) (.t 11)),.V 13 (.ld none (.t 12)),.V 4 (.asg (.t 13))] [4] []) .ret))) }
noncomputable def Zuq : List (Nat × Callee) := [(4,Zti)]
def Z2r : List (Nat × ET) := [(6,(.one .str)),(10,(.one .str))]
noncomputable def Zo1 : Callee := Zad Zuq Z2r Z1s [.d (.one (.int .i64)),.d (.one (.sl (.one .str)))] [.d (.one .str)] []
noncomputable def Zy1 (a0 : Int) (a1 : List (List UInt8)) : Option (List UInt8) := Zo1.f (a0,a1,())
theorem Z1o (a0 : Int) (a1 : List (List UInt8)) : Zy1 a0 a1 =
 (Z24 a0 (a1.length : Int)).bind fun x1 =>
  if (!x1) then
   some []
  else
   if decide (0 ≤ a0) then
    (a1[a0.toNat]?).bind fun x2 =>
     some x2
   else
    none :=
 (mk_f _ _ _ _ _ _ _ 4000).trans (by kernel_rfl)
def Zsd : Fn := { np := 1,io := [],res := [.t 2],own := [false],body :=
 (.seq (.reg false [.V 2 (.asg (.c (.str [])))] [0] []) (.seq (.reg false [.V 3 (.mv (.t 0)),.V 4 (.bsl 1 (.str []) 4 [(0,.c (.str [])),(1,.c (.str [114,101,97,100])),(2,.c (.str [99,104,97,110,103,101])),(3,.c (.str [114,101,108,101,97,115,101]))]),.V 5 (.call (.c (.fn 5 [])) [.t 3,.t 4]),.V 2 (.asg (.t 5))] [2] []) .ret)) }
noncomputable def Zlq : List (Nat × Callee) := [(5,Zo1)]
def Zt7 : List (Nat × ET) := [(4,(.one .str))]
noncomputable def Zgo : Callee := Zad Zlq Zt7 Zsd [.d (.one (.int .i64))] [.d (.one .str)] []
noncomputable def Zii (a0 : Int) : Option (List UInt8) := Zgo.f (a0,())
theorem Ztm (a0 : Int) : Zii a0 =
 (Zy1 a0 [[],[114,101,97,100],[99,104,97,110,103,101],[114,101,108,101,97,115,101]]).bind fun x1 =>
  some x1 :=
 (mk_f _ _ _ _ _ _ _ 4000).trans (by kernel_rfl)
def Zmb : C :=
 .seq (.reg true [.V 19 (.fa 0 (.t 1)),.V 20 (.ld none (.t 19)),.V 21 (.bin .add (.t 20) (.c (.str [32]))),.V 22 (.fa 2 (.t 1)),.V 23 (.ld none (.t 22)),.V 24 (.call (.c (.fn 820 [])) [.t 23]),.V 25 (.bin .add (.t 21) (.t 24)),.V 26 (.bin .add (.t 25) (.c (.str [32]))),.V 27 (.fa 1 (.t 1)),.V 28 (.ld none (.t 27)),.V 29 (.bin .add (.t 26) (.t 28)),.V 2 (.asg (.t 29))] [2] []) .ret
def Zlk : Fn := { np := 1,io := [],res := [.t 2],own := [false],body :=
 (.seq (.reg false [.W 1 (.box 3 (.t 0)),.V 2 (.asg (.c (.str [])))] [1] [1]) (.seq (.seq (.reg false [.V 3 (.fa 0 (.t 1)),.V 4 (.ld none (.t 3)),.V 5 (.call (.c (.fn 24 [])) [.t 4]),.V 6 (.un .not (.t 5)),.V 7 (.mv (.t 6)),.G 8 (.fa 1 (.t 1)) 4 false,.G 9 (.ld none (.t 8)) 4 false,.G 10 (.call (.c (.fn 24 [])) [.t 9]) 4 false,.G 11 (.un .not (.t 10)) 4 false,.V 12 (.pick (.t 7) (.c (.bool true)) (.t 11)),.V 13 (.mv (.t 12)),.G 14 (.fa 2 (.t 1)) 10 false,.G 15 (.ld none (.t 14)) 10 false,.G 16 (.call (.c (.fn 813 [])) [.t 15]) 10 false,.G 17 (.un .not (.t 16)) 10 false,.V 18 (.pick (.t 13) (.c (.bool true)) (.t 17))] [1,18] [1]) (.cond (.t 18) (.seq (.reg false [.V 2 (.asg (.c (.str [])))] [2] []) .ret) .skip)) (.norm [1] [1] Zmb))) }
noncomputable def Zg7 : List (Nat × Callee) := [(24,Ze0),(813,Zdq),(820,Zgo)]
def Zmw : List (Nat × ET) := []
noncomputable def Zep : Callee := Zad Zg7 Zmw Zlk [.d Zaa] [.d (.one .str)] []
noncomputable def Zd9 (a0 : Zaa.ty) : Option (List UInt8) := Zep.f (a0,())
noncomputable def Zly  (r1_0 : List UInt8) (r1_1 : List UInt8) (r1_2 : Int) : Option (List UInt8) :=
 goL Zg7 Zmw (vleave Zlk [.d Zaa] [.d (.one .str)] [] []) [.c Zmb]
  ⟨[(1,.loc 1 0 0)],[(1,some (.var 3 (.agg [.str r1_0,.str r1_1,.int .i64 r1_2])))]⟩
theorem Zt2 (a0 : Zaa.ty) : Zd9 a0 =
 (Zcb a0.1).bind fun x1 =>
  if (!x1) then
   some []
  else
   (Zcb a0.2.1).bind fun x2 =>
    if (!x2) then
     some []
    else
     (Zez a0.2.2.1).bind fun x3 =>
      if (!x3) then
       some []
      else
       Zly a0.1 a0.2.1 a0.2.2.1 :=
 (mk_f _ _ _ _ _ _ _ 4000).trans (by kernel_rfl)
theorem Zp5  (r1_0 : List UInt8) (r1_1 : List UInt8) (r1_2 : Int) : Zly r1_0 r1_1 r1_2 =
 if decide (r1_0.length + [32].length ≤ strMax) then
  (Zii r1_2).bind fun x1 =>
   if decide ((r1_0 ++ [32]).length + x1.length ≤ strMax) then
    if decide (((r1_0 ++ [32]) ++ x1).length + [32].length ≤ strMax) then
     if decide ((((r1_0 ++ [32]) ++ x1) ++ [32]).length + r1_1.length ≤ strMax) then
      some ((((r1_0 ++ [32]) ++ x1) ++ [32]) ++ r1_1)
     else
      none
    else
     none
   else
    none
 else
  none :=
 (goL_dn _ _ _ 4000 _ _).trans (by kernel_rfl)
noncomputable def Zh3 : Callee := splitC
noncomputable def strings_Split (a0 : List UInt8) (a1 : List UInt8) : Option (List (List UInt8)) := Zh3.f (a0,a1,())
theorem Zux (a0 : List UInt8) (a1 : List UInt8) : strings_Split a0 a1 = if decide (a0.length < 4294967281) && decide (1 ≤ a1.length) then some (Lib.splitK a1 0 (Lib.count a0 a1) a0) else none := rfl
def Zku : C :=
 .seq (.reg false [.V 11 (.bin .lss (.t 10) (.t 9))] [3,8,9,10,11] [3]) (.seq (.cond (.t 11) .skip (.exit 0)) (.seq (.block 1 (.seq (.reg false [.V 12 (.ia 1 (.t 8) (.t 10)),.V 13 (.ld none (.t 12)),.V 5 (.asg (.t 13))] [3,5,8,9,10] [3]) (.seq (.reg false [.V 14 (.mv (.t 5)),.V 15 (.bin .neq (.t 14) (.c (.str [])))] [3,5,8,9,10,15] [3]) (.cond (.t 15) (.reg false [.V 16 (.mv (.t 3)),.V 17 (.mv (.t 5)),.V 18 (.bsl 1 (.str []) 1 [(0,.t 17)]),.W 19 (.app 1 16 (.t 16) (.t 18)),.W 3 (.asg (.t 19))] [3,8,9,10] [3]) .skip)))) (.reg false [.V 20 (.bin .add (.t 10) (.c (.int .i64 1))),.V 10 (.mv (.t 20))] [3,8,9,10] [3])))
def Zkk : C :=
 .norm [3,8,9,10] [3] Zku
def Zkj : C :=
 .seq (.reg false [.V 21 (.mv (.t 3)),.W 2 (.asg (.t 21))] [2] [2,3]) .ret
def Zkr : Fn := { np := 1,io := [],res := [.t 2],own := [true],body :=
 (.seq (.reg false [.W 2 (.asg (.c (.nils 1)))] [0] []) (.seq (.reg false [.V 6 (.bsl 1 (.str []) 0 []),.W 3 (.asg (.t 6))] [0,3] [3]) (.seq (.seq (.reg false [.V 7 (.mv (.t 0)),.V 8 (.call (.c (.fn 683 [])) [.t 7,.c (.str [32])]),.V 9 (.len (.t 8)),.V 10 (.mv (.c (.int .i64 0)))] [3,8,9,10] [3]) (.block 0 (.loop Zkk))) Zkj))) }
noncomputable def Zgj : List (Nat × Callee) := [(683,Zh3)]
def Zlg : List (Nat × ET) := [(2,(.one .str)),(3,(.one .str)),(6,(.one .str)),(8,(.one .str)),(16,(.one .str)),(18,(.one .str)),(19,(.one .str)),(21,(.one .str))]
noncomputable def Zgs : Callee := Zad Zgj Zlg Zkr [.d (.one .str)] [.tok (.one .str)] []
noncomputable def Zh4 (a0 : List UInt8) : Option (List (List UInt8)) := Zgs.f (a0,())
noncomputable def Za9  (v8 : List (List UInt8)) (v9 : Int) (v10 : Int) (r3 : List (List UInt8)) : Option (List (List UInt8)) :=
 goL Zgj Zlg (vleave Zkr [.d (.one .str)] [.tok (.one .str)] [] []) [.c Zku,.l Zkk,.e 0,.c Zkj]
  ⟨[(3,.view 3 0 r3.length),(8,.sl (.one .str) v8),(9,.int .i64 v9),(10,.int .i64 v10)],[(3,some (.sl (.one .str) r3))]⟩
theorem Zs7 (a0 : List UInt8) : Zh4 a0 =
 (strings_Split a0 [32]).bind fun x1 =>
  Za9 x1 (x1.length : Int) 0 [] :=
 (mk_f _ _ _ _ _ _ _ 4000).trans (by kernel_rfl)
theorem Zcg  (v8 : List (List UInt8)) (v9 : Int) (v10 : Int) (r3 : List (List UInt8)) : Za9 v8 v9 v10 r3 =
 if decide (v10 < v9) then
  if decide (0 ≤ v10) then
   (v8[v10.toNat]?).bind fun x1 =>
    if (!(x1 == [])) then
     if decide (r3.length + 1 < lim) then
      Za9 v8 v9 (IntKind.i64.wrap (v10 + 1)) ((r3.take r3.length) ++ [x1])
     else
      none
    else
     Za9 v8 v9 (IntKind.i64.wrap (v10 + 1)) r3
  else
   none
 else
  some (r3.take r3.length) :=
 (goL_dn _ _ _ 4000 _ _).trans (by kernel_rfl)
def Zl0 : C :=
 .seq (.seq (.reg false [.V 13 (.mv (.t 5)),.V 14 (.bin .leq (.t 13) (.c (.int .i64 3)))] [0,2,4,5,14] [2,4]) (.cond (.t 14) .skip (.exit 0))) (.seq (.block 1 (.seq (.reg true [⟨some 17,false,.mv (.t 4),none,false,[6]⟩,⟨some 18,false,.ia 1 (.t 17) (.c (.int .i64 0)),none,false,[6]⟩,⟨some 19,false,.ld none (.t 18),none,false,[6]⟩,⟨some 20,false,.mv (.t 4),none,false,[6]⟩,⟨some 21,false,.ia 1 (.t 20) (.c (.int .i64 2)),none,false,[6]⟩,⟨some 22,false,.ld none (.t 21),none,false,[6]⟩,⟨some 23,false,.mv (.t 5),none,false,[6]⟩,⟨some 24,false,.build [.str [],.str [],.int .i64 0] [(0,1,.t 19),(1,1,.t 22),(2,1,.t 23)],none,false,[6]⟩,.W 6 (.alloc 3 (.agg [.str [],.str [],.int .i64 0])),⟨none,true,.sto 3 (.t 6) (.t 24),none,false,[]⟩] [0,2,4,5,6] [2,4,6]) (.seq (.reg false [.V 25 (.ld (some 3) (.t 6)),.V 26 (.call (.c (.fn 400 [])) [.t 25]),.V 27 (.mv (.t 0)),.V 28 (.bin .eql (.t 26) (.t 27))] [0,2,4,5,6,28] [2,4,6]) (.cond (.t 28) (.seq (.reg false [.V 29 (.ld (some 3) (.t 6)),⟨none,true,.sto 3 (.t 2) (.t 29),none,false,[]⟩,.V 3 (.asg (.c (.bool true)))] [2,3] [2]) .ret) .skip)))) (.reg false [.V 15 (.mv (.t 5)),.V 16 (.bin .add (.t 15) (.c (.int .i64 1))),.V 5 (.asg (.t 16))] [0,2,4,5] [2,4]))
def Zlw : C :=
 .norm [0,2,4,5] [2,4] Zl0
def Zl6 : C :=
 .seq (.reg false [.V 30 (.build [.str [],.str [],.int .i64 0] []),⟨none,true,.sto 3 (.t 2) (.t 30),none,false,[]⟩,.V 3 (.asg (.c (.bool false)))] [2,3] [2]) .ret
def Zlu : Fn := { np := 1,io := [],res := [.cell 2 (some 3),.t 3],own := [false,false],body :=
 (.seq (.reg false [.W 2 (.alloc 3 (.agg [.str [],.str [],.int .i64 0])),.V 3 (.asg (.c (.bool false)))] [0,2] [2]) (.seq (.reg false [.V 7 (.mv (.t 0)),.V 8 (.call (.c (.fn 458 [])) [.t 7]),.W 4 (.asg (.t 8))] [0,2,4] [2,4]) (.seq (.seq (.reg false [.V 9 (.mv (.t 4)),.V 10 (.len (.t 9)),.V 11 (.bin .neq (.t 10) (.c (.int .i64 3)))] [0,2,4,11] [2,4]) (.cond (.t 11) (.seq (.reg false [.V 12 (.build [.str [],.str [],.int .i64 0] []),⟨none,true,.sto 3 (.t 2) (.t 12),none,false,[]⟩,.V 3 (.asg (.c (.bool false)))] [2,3] [2]) .ret) .skip)) (.seq (.seq (.reg false [.V 5 (.asg (.c (.int .i64 1)))] [0,2,4,5] [2,4]) (.block 0 (.loop Zlw))) Zl6)))) }
noncomputable def Zha : List (Nat × Callee) := [(400,Zep),(458,Zgs)]
def Znk : List (Nat × ET) := [(4,(.one .str)),(8,(.one .str)),(9,(.one .str)),(17,(.one .str)),(20,(.one .str))]
noncomputable def Zhg : Callee := Zad Zha Znk Zlu [.d (.one .str)] [.d Zaa,.d (.one .bool)] []
noncomputable def Zjq (a0 : List UInt8) : Option (Zaa.ty × Bool) := Zhg.f (a0,())
noncomputable def Zcn  (v0 : List UInt8) (v5 : Int) (r2_0 : List UInt8) (r2_1 : List UInt8) (r2_2 : Int) (r4 : List (List UInt8)) : Option (Zaa.ty × Bool) :=
 goL Zha Znk (vleave Zlu [.d (.one .str)] [.d Zaa,.d (.one .bool)] [] []) [.c Zl0,.l Zlw,.e 0,.c Zl6]
  ⟨[(0,.str v0),(2,.loc 2 0 0),(4,.view 4 0 r4.length),(5,.int .i64 v5)],[(2,some (.var 3 (.agg [.str r2_0,.str r2_1,.int .i64 r2_2]))),(4,some (.sl (.one .str) r4))]⟩
theorem Ztu (a0 : List UInt8) : Zjq a0 =
 (Zh4 a0).bind fun x1 =>
  if ((x1.length : Int) != 3) then
   some (([],[],0,()),false)
  else
   Zcn a0 1 [] [] 0 x1 :=
 (mk_f _ _ _ _ _ _ _ 4000).trans (by kernel_rfl)
theorem Zpz  (v0 : List UInt8) (v5 : Int) (r2_0 : List UInt8) (r2_1 : List UInt8) (r2_2 : Int) (r4 : List (List UInt8)) : Zcn v0 v5 r2_0 r2_1 r2_2 r4 =
 if decide (v5 ≤ 3) then
  if decide (0 < (r4.length : Int)) then
   (r4[0]?).bind fun x1 =>
    if decide (2 < (r4.length : Int)) then
     (r4[2]?).bind fun x2 =>
      (Zd9 (x1,x2,v5,())).bind fun x3 =>
       if (x3 == v0) then
        some ((x1,x2,v5,()),true)
       else
        Zcn v0 (IntKind.i64.wrap (v5 + 1)) r2_0 r2_1 r2_2 r4
    else
     none
  else
   none
 else
  some (([],[],0,()),false) :=
 (goL_dn _ _ _ 4000 _ _).trans (by kernel_rfl)
def Zm5 : C :=
 .seq (.seq (.reg false [.V 122 (.mv (.t 17)),.V 123 (.mv (.t 15)),.V 124 (.len (.t 123)),.V 125 (.bin .lss (.t 122) (.t 124))] [1,5,6,7,8,9,11,12,13,14,15,17,125] [5,6,9,15]) (.cond (.t 125) .skip (.exit 2))) (.seq (.block 3 (.seq (.reg false [.V 128 (.mv (.t 9)),.V 129 (.mv (.t 15)),.V 130 (.mv (.t 17)),.V 131 (.ia 1 (.t 129) (.t 130)),.V 132 (.ld none (.t 131)),.V 133 (.call (.c (.fn 232 [])) [.t 128,.t 132]),.V 134 (.mv (.t 133)),.G 135 (.mv (.t 14)) 6 true,.G 136 (.un .not (.t 135)) 6 true,.V 137 (.pick (.t 134) (.t 136) (.c (.bool false)))] [1,5,6,7,8,9,11,12,13,14,15,17,137] [5,6,9,15]) (.cond (.t 137) (.seq (.reg false [.V 4 (.asg (.c (.bool false)))] [4] []) .ret) .skip))) (.reg false [.V 126 (.mv (.t 17)),.V 127 (.bin .add (.t 126) (.c (.int .i64 1))),.V 17 (.asg (.t 127))] [1,5,6,7,8,9,11,12,13,14,15,17] [5,6,9,15]))
def Zmn : C :=
 .norm [1,5,6,7,8,9,11,12,13,14,15,17] [5,6,9,15] Zm5
def Znb : C :=
 .seq (.reg false [.V 17 (.asg (.c (.int .i64 0)))] [1,5,6,7,8,9,11,12,13,14,15,17] [5,6,9,15]) (.block 2 (.loop Zmn))
def Znu : C :=
 .seq (.reg false [.V 102 (.mv (.t 5)),.V 103 (.mv (.t 5)),.V 104 (.mv (.t 13)),.V 105 (.ia 2 (.t 103) (.t 104)),.V 106 (.fa 0 (.t 105)),.V 107 (.ld none (.t 106)),.W 108 (.call (.c (.fn 404 [])) [.t 102,.t 107]),.V 101 (.mv (.t 108)),.V 109 (.ext (.t 101) 0),.V 110 (.ext (.t 101) 1),.W 15 (.asg (.t 109)),.V 16 (.asg (.t 110))] [1,5,6,7,8,9,11,12,13,14,15,16] [5,6,9,15]) (.seq (.seq (.reg false [.V 111 (.mv (.t 16)),.V 112 (.bin .neq (.t 111) (.c (.int .i64 0))),.V 113 (.mv (.t 112)),.G 114 (.mv (.t 15)) 2 false,.G 115 (.mv (.t 5)) 2 false,.G 116 (.mv (.t 13)) 2 false,.G 117 (.ia 2 (.t 115) (.t 116)) 2 false,.G 118 (.fa 0 (.t 117)) 2 false,.G 119 (.ld none (.t 118)) 2 false,.G 120 (.call (.c (.fn 232 [])) [.t 114,.t 119]) 2 false,.V 121 (.pick (.t 113) (.c (.bool true)) (.t 120))] [1,5,6,7,8,9,11,12,13,14,15,121] [5,6,9,15]) (.cond (.t 121) (.seq (.reg false [.V 4 (.asg (.c (.bool false)))] [4] []) .ret) .skip)) (.norm [1,5,6,7,8,9,11,12,13,14,15] [5,6,9,15] Znb))
def Zef : C :=
 .reg false [.V 65 (.mv (.t 13)),.V 66 (.bin .add (.t 65) (.c (.int .i64 1))),.V 13 (.asg (.t 66))] [1,5,6,7,8,9,11,12,13] [5,6,9]
def Zmv : C :=
 .seq (.seq (.reg false [.V 61 (.mv (.t 13)),.V 62 (.mv (.t 5)),.V 63 (.len (.t 62)),.V 64 (.bin .lss (.t 61) (.t 63))] [1,5,6,7,8,9,11,12,13,64] [5,6,9]) (.cond (.t 64) .skip (.exit 0))) (.seq (.block 1 (.seq (.reg false [.V 67 (.mv (.t 5)),.V 68 (.mv (.t 6)),.V 69 (.mv (.t 5)),.V 70 (.mv (.t 13)),.V 71 (.ia 2 (.t 69) (.t 70)),.V 72 (.fa 0 (.t 71)),.V 73 (.ld none (.t 72)),.V 74 (.mv (.t 7)),.V 75 (.mv (.t 8)),.V 76 (.call (.c (.fn 399 [])) [.t 67,.t 68,.t 73,.t 74,.t 75]),.V 14 (.asg (.t 76))] [1,5,6,7,8,9,11,12,13,14] [5,6,9]) (.seq (.seq (.reg false [.V 77 (.mv (.t 14)),.V 78 (.mv (.t 9)),.V 79 (.mv (.t 5)),.V 80 (.mv (.t 13)),.V 81 (.ia 2 (.t 79) (.t 80)),.V 82 (.fa 0 (.t 81)),.V 83 (.ld none (.t 82)),.V 84 (.call (.c (.fn 232 [])) [.t 78,.t 83]),.V 85 (.eqb true (.t 77) (.t 84)),.V 86 (.mv (.t 85)),.G 87 (.mv (.t 14)) 9 false,.G 88 (.mv (.t 87)) 9 false,.G 89 (.mv (.t 5)) 11 true,.G 90 (.mv (.t 6)) 11 true,.G 91 (.mv (.t 5)) 11 true,.G 92 (.mv (.t 13)) 11 true,.G 93 (.ia 2 (.t 91) (.t 92)) 11 true,.G 94 (.fa 0 (.t 93)) 11 true,.G 95 (.ld none (.t 94)) 11 true,.G 96 (.mv (.t 7)) 11 true,.G 97 (.call (.c (.fn 399 [])) [.t 89,.t 90,.t 95,.t 96,.c (.int .i64 1)]) 11 true,.G 98 (.un .not (.t 97)) 11 true,.G 99 (.pick (.t 88) (.t 98) (.c (.bool false))) 9 false,.V 100 (.pick (.t 86) (.c (.bool true)) (.t 99))] [1,5,6,7,8,9,11,12,13,14,100] [5,6,9]) (.cond (.t 100) (.seq (.reg false [.V 4 (.asg (.c (.bool false)))] [4] []) .ret) .skip)) (.norm [1,5,6,7,8,9,11,12,13,14] [5,6,9] Znu)))) Zef)
def Zdd : C :=
 .norm [1,5,6,7,8,9,11,12,13] [5,6,9] Zmv
def Zc3 : C :=
 .seq (.reg false [.V 138 (.mv (.t 12)),.V 139 (.bin .eql (.t 138) (.c (.int .i64 0))),.V 140 (.mv (.t 9)),.V 141 (.len (.t 140)),.V 142 (.bin .gtr (.t 141) (.c (.int .i64 0))),.V 143 (.eqb true (.t 139) (.t 142)),.V 144 (.mv (.t 143)),.G 145 (.mv (.t 12)) 6 false,.G 146 (.bin .eql (.t 145) (.c (.int .i64 0))) 6 false,.G 147 (.mv (.t 146)) 6 false,.G 148 (.mv (.t 9)) 9 true,.G 149 (.mv (.t 11)) 9 true,.G 150 (.call (.c (.fn 232 [])) [.t 148,.t 149]) 9 true,.G 151 (.un .not (.t 150)) 9 true,.G 152 (.pick (.t 147) (.t 151) (.c (.bool false))) 6 false,.V 153 (.pick (.t 144) (.c (.bool true)) (.t 152))] [1,153] []) (.cond (.t 153) (.seq (.reg false [.V 4 (.asg (.c (.bool false)))] [4] []) .ret) .skip)
def Znh : C :=
 .seq (.seq (.reg false [.V 172 (.mv (.t 23)),.V 173 (.mv (.t 21)),.V 174 (.len (.t 173)),.V 175 (.bin .lss (.t 172) (.t 174))] [18,19,20,21,23,175] [18,19,21]) (.cond (.t 175) .skip (.exit 4))) (.seq (.block 5 (.seq (.reg false [.V 178 (.mv (.t 21)),.V 179 (.mv (.t 23)),.V 180 (.ia 3 (.t 178) (.t 179)),.V 181 (.ld (some 3) (.t 180)),.W 24 (.alloc 3 (.agg [.str [],.str [],.int .i64 0])),⟨none,true,.sto 3 (.t 24) (.t 181),none,false,[]⟩] [18,19,20,21,23,24] [18,19,21,24]) (.seq (.reg false [.V 183 (.ld (some 3) (.t 24)),.V 184 (.call (.c (.fn 400 [])) [.t 183]),.V 185 (.call (.c (.fn 401 [])) [.t 184]),.V 182 (.mv (.t 185)),.V 186 (.ext (.t 182) 0),.V 187 (.ext (.t 182) 1),.W 25 (.alloc 3 (.agg [.str [],.str [],.int .i64 0])),⟨none,true,.sto 3 (.t 25) (.t 186),none,false,[]⟩,.V 26 (.asg (.t 187))] [18,19,20,21,23,24,25,26] [18,19,21,24,25]) (.seq (.reg true [.V 188 (.fa 0 (.t 24)),.V 189 (.ld none (.t 188)),.V 190 (.mv (.t 20)),.V 191 (.bin .neq (.t 189) (.t 190)),.V 192 (.mv (.t 191)),.G 193 (.mv (.t 18)) 4 false,.G 194 (.mv (.t 19)) 4 false,.G 195 (.mv (.t 20)) 4 false,.G 196 (.fa 1 (.t 24)) 4 false,.G 197 (.ld none (.t 196)) 4 false,.G 198 (.fa 2 (.t 24)) 4 false,.G 199 (.ld none (.t 198)) 4 false,.G 200 (.call (.c (.fn 399 [])) [.t 193,.t 194,.t 195,.t 197,.t 199]) 4 false,.G 201 (.un .not (.t 200)) 4 false,.V 202 (.pick (.t 192) (.c (.bool true)) (.t 201)),.V 203 (.mv (.t 202)),.G 204 (.mv (.t 26)) 15 false,.G 205 (.un .not (.t 204)) 15 false,.V 206 (.pick (.t 203) (.c (.bool true)) (.t 205)),.V 207 (.mv (.t 206)),.G 208 (.ld (some 3) (.t 25)) 19 false,.G 209 (.ld (some 3) (.t 24)) 19 false,.G 210 (.eqs true [.s,.s,.i] (.t 208) (.t 209)) 19 false,.V 211 (.pick (.t 207) (.c (.bool true)) (.t 210)),.V 212 (.mv (.t 211)),.G 213 (.mv (.t 23)) 24 false,.G 214 (.bin .gtr (.t 213) (.c (.int .i64 0))) 24 false,.G 215 (.mv (.t 214)) 24 false,.G 216 (.mv (.t 21)) 27 true,.G 217 (.mv (.t 23)) 27 true,.G 218 (.bin .sub (.t 217) (.c (.int .i64 1))) 27 true,.G 219 (.ia 3 (.t 216) (.t 218)) 27 true,.G 220 (.fa 1 (.t 219)) 27 true,.G 221 (.ld none (.t 220)) 27 true,.G 222 (.fa 1 (.t 24)) 27 true,.G 223 (.ld none (.t 222)) 27 true,.G 224 (.bin .gtr (.t 221) (.t 223)) 27 true,.G 225 (.mv (.t 224)) 27 true,.G 226 (.mv (.t 21)) 37 false,.G 227 (.mv (.t 23)) 37 false,.G 228 (.bin .sub (.t 227) (.c (.int .i64 1))) 37 false,.G 229 (.ia 3 (.t 226) (.t 228)) 37 false,.G 230 (.fa 1 (.t 229)) 37 false,.G 231 (.ld none (.t 230)) 37 false,.G 232 (.fa 1 (.t 24)) 37 false,.G 233 (.ld none (.t 232)) 37 false,.G 234 (.bin .eql (.t 231) (.t 233)) 37 false,.G 235 (.mv (.t 234)) 37 false,.G 236 (.mv (.t 21)) 47 true,.G 237 (.mv (.t 23)) 47 true,.G 238 (.bin .sub (.t 237) (.c (.int .i64 1))) 47 true,.G 239 (.ia 3 (.t 236) (.t 238)) 47 true,.G 240 (.fa 2 (.t 239)) 47 true,.G 241 (.ld none (.t 240)) 47 true,.G 242 (.fa 2 (.t 24)) 47 true,.G 243 (.ld none (.t 242)) 47 true,.G 244 (.bin .geq (.t 241) (.t 243)) 47 true,.G 245 (.pick (.t 235) (.t 244) (.c (.bool false))) 37 false,.G 246 (.pick (.t 225) (.c (.bool true)) (.t 245)) 27 true,.G 247 (.pick (.t 215) (.t 246) (.c (.bool false))) 24 false,.V 248 (.pick (.t 212) (.c (.bool true)) (.t 247))] [18,19,20,21,23,248] [18,19,21]) (.cond (.t 248) (.seq (.reg false [.V 4 (.asg (.c (.bool false)))] [4] []) .ret) .skip))))) (.reg false [.V 176 (.mv (.t 23)),.V 177 (.bin .add (.t 176) (.c (.int .i64 1))),.V 23 (.asg (.t 177))] [18,19,20,21,23] [18,19,21]))
def Zmx : C :=
 .norm [18,19,20,21,23] [18,19,21] Znh
def Zl7 : C :=
 .seq (.seq (.reg false [.V 262 (.mv (.t 29)),.V 263 (.mv (.t 21)),.V 264 (.len (.t 263)),.V 265 (.bin .lss (.t 262) (.t 264))] [19,20,21,27,28,29,265] [19,21]) (.cond (.t 265) .skip (.exit 8))) (.seq (.block 9 (.reg true [.V 268 (.mv (.t 28)),.V 269 (.mv (.t 268)),.G 270 (.mv (.t 21)) 1 false,.G 271 (.mv (.t 29)) 1 false,.G 272 (.ia 3 (.t 270) (.t 271)) 1 false,.G 273 (.ld (some 3) (.t 272)) 1 false,.G 274 (.mv (.t 19)) 1 false,.G 275 (.mv (.t 27)) 1 false,.G 276 (.ia 3 (.t 274) (.t 275)) 1 false,.G 277 (.ld (some 3) (.t 276)) 1 false,.G 278 (.eqs false [.s,.s,.i] (.t 273) (.t 277)) 1 false,.V 279 (.pick (.t 269) (.c (.bool true)) (.t 278)),.V 28 (.asg (.t 279))] [19,20,21,27,28,29] [19,21])) (.reg false [.V 266 (.mv (.t 29)),.V 267 (.bin .add (.t 266) (.c (.int .i64 1))),.V 29 (.asg (.t 267))] [19,20,21,27,28,29] [19,21]))
def Zl3 : C :=
 .norm [19,20,21,27,28,29] [19,21] Zl7
def Zlv : C :=
 .seq (.reg false [.V 280 (.mv (.t 28)),.V 281 (.un .not (.t 280))] [19,20,21,27,281] [19,21]) (.cond (.t 281) (.seq (.reg false [.V 4 (.asg (.c (.bool false)))] [4] []) .ret) .skip)
def Zl9 : C :=
 .reg false [.V 253 (.mv (.t 27)),.V 254 (.bin .add (.t 253) (.c (.int .i64 1))),.V 27 (.asg (.t 254))] [19,20,21,27] [19,21]
def Zll : C :=
 .seq (.seq (.reg false [.V 249 (.mv (.t 27)),.V 250 (.mv (.t 19)),.V 251 (.len (.t 250)),.V 252 (.bin .lss (.t 249) (.t 251))] [19,20,21,27,252] [19,21]) (.cond (.t 252) .skip (.exit 6))) (.seq (.block 7 (.seq (.seq (.reg false [.V 255 (.mv (.t 19)),.V 256 (.mv (.t 27)),.V 257 (.ia 3 (.t 255) (.t 256)),.V 258 (.fa 0 (.t 257)),.V 259 (.ld none (.t 258)),.V 260 (.mv (.t 20)),.V 261 (.bin .neq (.t 259) (.t 260))] [19,20,21,27,261] [19,21]) (.cond (.t 261) (.exit 7) .skip)) (.seq (.reg false [.V 28 (.asg (.c (.bool false)))] [19,20,21,27,28] [19,21]) (.seq (.seq (.reg false [.V 29 (.asg (.c (.int .i64 0)))] [19,20,21,27,28,29] [19,21]) (.block 8 (.loop Zl3))) Zlv)))) Zl9)
def Zgv : C :=
 .norm [19,20,21,27] [19,21] Zll
def Zgr : C :=
 .seq (.reg false [.V 4 (.asg (.c (.bool true)))] [4] []) .ret
def Zln : C :=
 .seq (.seq (.reg false [.V 27 (.asg (.c (.int .i64 0)))] [19,20,21,27] [19,21]) (.block 6 (.loop Zgv))) Zgr
def Zl2 : C :=
 .seq (.reg false [.V 155 (.mv (.t 1)),.V 156 (.call (.c (.fn 403 [])) [.t 155]),.V 154 (.mv (.t 156)),.V 157 (.ext (.t 154) 0),.V 158 (.ext (.t 154) 1),.V 159 (.ext (.t 154) 2),.W 18 (.asg (.t 157)),.W 19 (.asg (.t 158)),.V 20 (.asg (.t 159))] [18,19,20] [18,19]) (.seq (.reg false [.V 161 (.mv (.t 18)),.V 162 (.mv (.t 19)),.V 163 (.mv (.t 20)),.W 164 (.call (.c (.fn 402 [])) [.t 161,.t 162,.t 163]),.V 160 (.mv (.t 164)),.V 165 (.ext (.t 160) 0),.V 166 (.ext (.t 160) 1),.W 21 (.asg (.t 165)),.V 22 (.asg (.t 166))] [18,19,20,21,22] [18,19,21]) (.seq (.seq (.reg false [.V 167 (.mv (.t 22)),.V 168 (.bin .neq (.t 167) (.c (.int .i64 0)))] [18,19,20,21,168] [18,19,21]) (.cond (.t 168) (.seq (.reg false [.V 169 (.mv (.t 21)),.V 170 (.len (.t 169)),.V 171 (.bin .eql (.t 170) (.c (.int .i64 0))),.V 4 (.asg (.t 171))] [4] []) .ret) .skip)) (.seq (.seq (.reg false [.V 23 (.asg (.c (.int .i64 0)))] [18,19,20,21,23] [18,19,21]) (.block 4 (.loop Zmx))) Zln)))
def Zcp : C :=
 .norm [1] [] Zl2
def Zl1 : C :=
 .seq (.reg false [.V 37 (.mv (.t 0)),.V 38 (.call (.c (.fn 407 [])) [.t 37]),.V 36 (.mv (.t 38)),.V 39 (.ext (.t 36) 0),.V 40 (.ext (.t 36) 1),.V 41 (.ext (.t 36) 2),.V 42 (.ext (.t 36) 3),.W 5 (.asg (.t 39)),.W 6 (.asg (.t 40)),.V 7 (.asg (.t 41)),.V 8 (.asg (.t 42))] [1,5,6,7,8] [5,6]) (.seq (.reg false [.V 44 (.mv (.t 5)),.V 45 (.mv (.t 6)),.V 46 (.mv (.t 7)),.V 47 (.mv (.t 8)),.W 48 (.call (.c (.fn 406 [])) [.t 44,.t 45,.t 46,.t 47]),.V 43 (.mv (.t 48)),.V 49 (.ext (.t 43) 0),.V 50 (.ext (.t 43) 1),.W 9 (.asg (.t 49)),.V 10 (.asg (.t 50))] [1,5,6,7,8,9,10] [5,6,9]) (.seq (.reg false [.V 52 (.mv (.t 5)),.V 53 (.mv (.t 6)),.V 54 (.mv (.t 7)),.V 55 (.mv (.t 8)),.V 56 (.call (.c (.fn 405 [])) [.t 52,.t 53,.t 54,.t 55]),.V 51 (.mv (.t 56)),.V 57 (.ext (.t 51) 0),.V 58 (.ext (.t 51) 1),.V 11 (.asg (.t 57)),.V 12 (.asg (.t 58))] [1,5,6,7,8,9,10,11,12] [5,6,9]) (.seq (.seq (.reg false [.V 59 (.mv (.t 10)),.V 60 (.bin .eql (.t 59) (.c (.int .i64 0)))] [1,5,6,7,8,9,11,12,60] [5,6,9]) (.cond (.t 60) (.seq (.seq (.reg false [.V 13 (.asg (.c (.int .i64 0)))] [1,5,6,7,8,9,11,12,13] [5,6,9]) (.block 0 (.loop Zdd))) Zc3) .skip)) Zcp)))
def Zau : Fn := { np := 2,io := [],res := [.t 4],own := [false],body :=
 (.seq (.reg false [.V 4 (.asg (.c (.bool false)))] [0,1] []) (.seq (.seq (.reg false [.V 30 (.mv (.t 0)),.V 31 (.call (.c (.fn 76 [])) [.t 30]),.V 32 (.mv (.t 31)),.G 33 (.mv (.t 1)) 2 false,.G 34 (.call (.c (.fn 76 [])) [.t 33]) 2 false,.V 35 (.pick (.t 32) (.c (.bool true)) (.t 34))] [0,1,35] []) (.cond (.t 35) (.seq (.reg false [.V 4 (.asg (.c (.bool true)))] [4] []) .ret) .skip)) (.norm [0,1] [] Zl1))) }
noncomputable def Zas : List (Nat × Callee) := [(76,Zjo),(232,Zg5),(399,Zfe),(400,Zep),(401,Zhg),(402,Zij),(403,Ze5),(404,Zgi),(405,Zhp),(406,Zk5),(407,Zgk)]
def Za4 : List (Nat × ET) := [(5,T_Role),(6,Zaa),(9,(.one .str)),(15,(.one .str)),(18,T_Role),(19,Zaa),(21,Zaa),(30,(.one (.int .u8))),(33,(.one (.int .u8))),(37,(.one (.int .u8))),(39,T_Role),(40,Zaa),(44,T_Role),(45,Zaa),(49,(.one .str)),(52,T_Role),(53,Zaa),(62,T_Role),(67,T_Role),(68,Zaa),(69,T_Role),(78,(.one .str)),(79,T_Role),(89,T_Role),(90,Zaa),(91,T_Role),(102,T_Role),(103,T_Role),(109,(.one .str)),(114,(.one .str)),(115,T_Role),(123,(.one .str)),(128,(.one .str)),(129,(.one .str)),(140,(.one .str)),(148,(.one .str)),(155,(.one (.int .u8))),(157,T_Role),(158,Zaa),(161,T_Role),(162,Zaa),(165,Zaa),(169,Zaa),(173,Zaa),(178,Zaa),(193,T_Role),(194,Zaa),(216,Zaa),(226,Zaa),(236,Zaa),(250,Zaa),(255,Zaa),(263,Zaa),(270,Zaa),(274,Zaa)]
noncomputable def Zdv : Callee := Zad Zas Za4 Zau [.d (.one (.sl (.one (.int .u8)))),.d (.one (.sl (.one (.int .u8))))] [.d (.one .bool)] []
noncomputable def Zq5 (a0 : List Int) (a1 : List Int) : Option (Bool) := Zdv.f (a0,a1,())
noncomputable def Zm1  (v0 : List Int) (v1 : List Int) : Option (Bool) :=
 goL Zas Za4 (vleave Zau [.d (.one (.sl (.one (.int .u8)))),.d (.one (.sl (.one (.int .u8))))] [.d (.one .bool)] [] []) [.c Zl1]
  ⟨[(0,.sl (.one (.int .u8)) v0),(1,.sl (.one (.int .u8)) v1)],[]⟩
noncomputable def Zbq  (v1 : List Int) (v5 : List T_Role.ty) (v6 : List Zaa.ty) (v7 : List UInt8) (v8 : Int) (v9 : List (List UInt8)) (v11 : List UInt8) (v12 : Int) (v13 : Int) : Option (Bool) :=
 goL Zas Za4 (vleave Zau [.d (.one (.sl (.one (.int .u8)))),.d (.one (.sl (.one (.int .u8))))] [.d (.one .bool)] [] []) [.c Zmv,.l Zdd,.e 0,.c Zc3,.c Zcp]
  ⟨[(1,.sl (.one (.int .u8)) v1),(5,.sl T_Role v5),(6,.sl Zaa v6),(7,.str v7),(8,.int .i64 v8),(9,.sl (.one .str) v9),(11,.str v11),(12,.int .i64 v12),(13,.int .i64 v13)],[(5,none),(6,none),(9,none)]⟩
noncomputable def Zdc  (v1 : List Int) : Option (Bool) :=
 goL Zas Za4 (vleave Zau [.d (.one (.sl (.one (.int .u8)))),.d (.one (.sl (.one (.int .u8))))] [.d (.one .bool)] [] []) [.c Zl2]
  ⟨[(1,.sl (.one (.int .u8)) v1)],[]⟩
noncomputable def Zee  (v1 : List Int) (v5 : List T_Role.ty) (v6 : List Zaa.ty) (v7 : List UInt8) (v8 : Int) (v9 : List (List UInt8)) (v11 : List UInt8) (v12 : Int) (v13 : Int) (v14 : Bool) : Option (Bool) :=
 goL Zas Za4 (vleave Zau [.d (.one (.sl (.one (.int .u8)))),.d (.one (.sl (.one (.int .u8))))] [.d (.one .bool)] [] []) [.c Znu,.e 1,.c Zef,.l Zdd,.e 0,.c Zc3,.c Zcp]
  ⟨[(1,.sl (.one (.int .u8)) v1),(5,.sl T_Role v5),(6,.sl Zaa v6),(7,.str v7),(8,.int .i64 v8),(9,.sl (.one .str) v9),(11,.str v11),(12,.int .i64 v12),(13,.int .i64 v13),(14,.bool v14)],[(5,none),(6,none),(9,none)]⟩
noncomputable def Zb7  (v18 : List T_Role.ty) (v19 : List Zaa.ty) (v20 : List UInt8) (v21 : List Zaa.ty) (v23 : Int) : Option (Bool) :=
 goL Zas Za4 (vleave Zau [.d (.one (.sl (.one (.int .u8)))),.d (.one (.sl (.one (.int .u8))))] [.d (.one .bool)] [] []) [.c Znh,.l Zmx,.e 4,.c Zln]
  ⟨[(18,.sl T_Role v18),(19,.sl Zaa v19),(20,.str v20),(21,.sl Zaa v21),(23,.int .i64 v23)],[(18,none),(19,none),(21,none)]⟩
noncomputable def Zmo  (v1 : List Int) (v5 : List T_Role.ty) (v6 : List Zaa.ty) (v7 : List UInt8) (v8 : Int) (v9 : List (List UInt8)) (v11 : List UInt8) (v12 : Int) (v13 : Int) (v14 : Bool) (v15 : List (List UInt8)) : Option (Bool) :=
 goL Zas Za4 (vleave Zau [.d (.one (.sl (.one (.int .u8)))),.d (.one (.sl (.one (.int .u8))))] [.d (.one .bool)] [] []) [.c Znb,.e 1,.c Zef,.l Zdd,.e 0,.c Zc3,.c Zcp]
  ⟨[(1,.sl (.one (.int .u8)) v1),(5,.sl T_Role v5),(6,.sl Zaa v6),(7,.str v7),(8,.int .i64 v8),(9,.sl (.one .str) v9),(11,.str v11),(12,.int .i64 v12),(13,.int .i64 v13),(14,.bool v14),(15,.sl (.one .str) v15)],[(5,none),(6,none),(9,none),(15,none)]⟩
noncomputable def Zb5  (v19 : List Zaa.ty) (v20 : List UInt8) (v21 : List Zaa.ty) (v27 : Int) : Option (Bool) :=
 goL Zas Za4 (vleave Zau [.d (.one (.sl (.one (.int .u8)))),.d (.one (.sl (.one (.int .u8))))] [.d (.one .bool)] [] []) [.c Zll,.l Zgv,.e 6,.c Zgr]
  ⟨[(19,.sl Zaa v19),(20,.str v20),(21,.sl Zaa v21),(27,.int .i64 v27)],[(19,none),(21,none)]⟩
noncomputable def Zcz  (v1 : List Int) (v5 : List T_Role.ty) (v6 : List Zaa.ty) (v7 : List UInt8) (v8 : Int) (v9 : List (List UInt8)) (v11 : List UInt8) (v12 : Int) (v13 : Int) (v14 : Bool) (v15 : List (List UInt8)) (v17 : Int) : Option (Bool) :=
 goL Zas Za4 (vleave Zau [.d (.one (.sl (.one (.int .u8)))),.d (.one (.sl (.one (.int .u8))))] [.d (.one .bool)] [] []) [.c Zm5,.l Zmn,.e 2,.e 1,.c Zef,.l Zdd,.e 0,.c Zc3,.c Zcp]
  ⟨[(1,.sl (.one (.int .u8)) v1),(5,.sl T_Role v5),(6,.sl Zaa v6),(7,.str v7),(8,.int .i64 v8),(9,.sl (.one .str) v9),(11,.str v11),(12,.int .i64 v12),(13,.int .i64 v13),(14,.bool v14),(15,.sl (.one .str) v15),(17,.int .i64 v17)],[(5,none),(6,none),(9,none),(15,none)]⟩
noncomputable def Zc1  (v19 : List Zaa.ty) (v20 : List UInt8) (v21 : List Zaa.ty) (v27 : Int) (v28 : Bool) (v29 : Int) : Option (Bool) :=
 goL Zas Za4 (vleave Zau [.d (.one (.sl (.one (.int .u8)))),.d (.one (.sl (.one (.int .u8))))] [.d (.one .bool)] [] []) [.c Zl7,.l Zl3,.e 8,.c Zlv,.e 7,.c Zl9,.l Zgv,.e 6,.c Zgr]
  ⟨[(19,.sl Zaa v19),(20,.str v20),(21,.sl Zaa v21),(27,.int .i64 v27),(28,.bool v28),(29,.int .i64 v29)],[(19,none),(21,none)]⟩
theorem Zvc (a0 : List Int) (a1 : List Int) : Zq5 a0 a1 =
 (Zfp a0).bind fun x1 =>
  if x1 then
   some true
  else
   (Zfp a1).bind fun x2 =>
    if x2 then
     some true
    else
     Zm1 a0 a1 :=
 (mk_f _ _ _ _ _ _ _ 4000).trans (by kernel_rfl)
theorem Zi1  (v0 : List Int) (v1 : List Int) : Zm1 v0 v1 =
 (Zin v0).bind fun x1 =>
  (Zgy x1.1 (x1.2.1.take x1.2.1.length) x1.2.2.1 x1.2.2.2).bind fun x2 =>
   (Zfz x1.1 (x1.2.1.take x1.2.1.length) x1.2.2.1 x1.2.2.2).bind fun x3 =>
    if (x2.2 == 0) then
     Zbq v1 x1.1 (x1.2.1.take x1.2.1.length) x1.2.2.1 x1.2.2.2 x2.1 x3.1 x3.2 0
    else
     Zdc v1 :=
 (goL_dn _ _ _ 4000 _ _).trans (by kernel_rfl)
theorem Ziz  (v1 : List Int) (v5 : List T_Role.ty) (v6 : List Zaa.ty) (v7 : List UInt8) (v8 : Int) (v9 : List (List UInt8)) (v11 : List UInt8) (v12 : Int) (v13 : Int) : Zbq v1 v5 v6 v7 v8 v9 v11 v12 v13 =
 if decide (v13 < (v5.length : Int)) then
  if decide (0 ≤ v13) then
   (v5[v13.toNat]?).bind fun x1 =>
    (Zbk v5 v6 x1.1 v7 v8).bind fun x2 =>
     if decide (0 ≤ v13) then
      (v5[v13.toNat]?).bind fun x3 =>
       (Zcw v9 x3.1).bind fun x4 =>
        if (!(x2 == x4)) then
         some false
        else
         if x2 then
          if decide (0 ≤ v13) then
           (v5[v13.toNat]?).bind fun x5 =>
            (Zbk v5 v6 x5.1 v7 1).bind fun x6 =>
             if (!x6) then
              some false
             else
              Zee v1 v5 v6 v7 v8 v9 v11 v12 v13 x2
          else
           none
         else
          Zee v1 v5 v6 v7 v8 v9 v11 v12 v13 x2
     else
      none
  else
   none
 else
  if (!((v12 == 0) == decide ((v9.length : Int) > 0))) then
   some false
  else
   if (v12 == 0) then
    (Zcw v9 v11).bind fun x7 =>
     if (!x7) then
      some false
     else
      Zdc v1
   else
    Zdc v1 :=
 (goL_dn _ _ _ 4000 _ _).trans (by kernel_rfl)
theorem Zrp  (v1 : List Int) : Zdc v1 =
 (Zgp v1).bind fun x1 =>
  (Zla x1.1 (x1.2.1.take x1.2.1.length) x1.2.2).bind fun x2 =>
   if (x2.2 != 0) then
    some ((x2.1.length : Int) == 0)
   else
    Zb7 x1.1 (x1.2.1.take x1.2.1.length) x1.2.2 x2.1 0 :=
 (goL_dn _ _ _ 4000 _ _).trans (by kernel_rfl)
theorem Zrt  (v1 : List Int) (v5 : List T_Role.ty) (v6 : List Zaa.ty) (v7 : List UInt8) (v8 : Int) (v9 : List (List UInt8)) (v11 : List UInt8) (v12 : Int) (v13 : Int) (v14 : Bool) : Zee v1 v5 v6 v7 v8 v9 v11 v12 v13 v14 =
 if decide (0 ≤ v13) then
  (v5[v13.toNat]?).bind fun x1 =>
   (Zfa v5 x1.1).bind fun x2 =>
    if (x2.2 != 0) then
     some false
    else
     if decide (0 ≤ v13) then
      (v5[v13.toNat]?).bind fun x3 =>
       (Zcw x2.1 x3.1).bind fun x4 =>
        if x4 then
         some false
        else
         Zmo v1 v5 v6 v7 v8 v9 v11 v12 v13 v14 x2.1
     else
      none
 else
  none :=
 (goL_dn _ _ _ 4000 _ _).trans (by kernel_rfl)
theorem Ziy  (v18 : List T_Role.ty) (v19 : List Zaa.ty) (v20 : List UInt8) (v21 : List Zaa.ty) (v23 : Int) : Zb7 v18 v19 v20 v21 v23 =
 if decide (v23 < (v21.length : Int)) then
  if decide (0 ≤ v23) then
   (v21[v23.toNat]?).bind fun x1 =>
    (Zd9 x1).bind fun x2 =>
     (Zjq x2).bind fun x3 =>
      if (!(x1.1 == v20)) then
       some false
      else
       (Zbk v18 v19 v20 x1.2.1 x1.2.2.1).bind fun x4 =>
        if (!x4) then
         some false
        else
         if (!x3.2) then
          some false
         else
          if (!((x3.1.1 == x1.1) && ((x3.1.2.1 == x1.2.1) && (x3.1.2.2.1 == x1.2.2.1)))) then
           some false
          else
           if decide (v23 > 0) then
            if decide (0 ≤ IntKind.i64.wrap (v23 - 1)) then
             (v21[(IntKind.i64.wrap (v23 - 1)).toNat]?).bind fun x5 =>
              if (!(Op.bytesLess x5.2.1 x1.2.1 || x5.2.1 == x1.2.1)) then
               some false
              else
               if decide (0 ≤ IntKind.i64.wrap (v23 - 1)) then
                (v21[(IntKind.i64.wrap (v23 - 1)).toNat]?).bind fun x6 =>
                 if (x6.2.1 == x1.2.1) then
                  if decide (0 ≤ IntKind.i64.wrap (v23 - 1)) then
                   (v21[(IntKind.i64.wrap (v23 - 1)).toNat]?).bind fun x7 =>
                    if decide (x7.2.2.1 ≥ x1.2.2.1) then
                     some false
                    else
                     Zb7 v18 v19 v20 v21 (IntKind.i64.wrap (v23 + 1))
                  else
                   none
                 else
                  Zb7 v18 v19 v20 v21 (IntKind.i64.wrap (v23 + 1))
               else
                none
            else
             none
           else
            Zb7 v18 v19 v20 v21 (IntKind.i64.wrap (v23 + 1))
  else
   none
 else
  Zb5 v19 v20 v21 0 :=
 (goL_dn _ _ _ 4000 _ _).trans (by kernel_rfl)
theorem Zry  (v1 : List Int) (v5 : List T_Role.ty) (v6 : List Zaa.ty) (v7 : List UInt8) (v8 : Int) (v9 : List (List UInt8)) (v11 : List UInt8) (v12 : Int) (v13 : Int) (v14 : Bool) (v15 : List (List UInt8)) : Zmo v1 v5 v6 v7 v8 v9 v11 v12 v13 v14 v15 =
 Zcz v1 v5 v6 v7 v8 v9 v11 v12 v13 v14 v15 0 :=
 (goL_dn _ _ _ 4000 _ _).trans (by kernel_rfl)
theorem Zi0  (v19 : List Zaa.ty) (v20 : List UInt8) (v21 : List Zaa.ty) (v27 : Int) : Zb5 v19 v20 v21 v27 =
 if decide (v27 < (v19.length : Int)) then
  if decide (0 ≤ v27) then
   (v19[v27.toNat]?).bind fun x1 =>
    if (!(x1.1 == v20)) then
     Zb5 v19 v20 v21 (IntKind.i64.wrap (v27 + 1))
    else
     Zc1 v19 v20 v21 v27 false 0
  else
   none
 else
  some true :=
 (goL_dn _ _ _ 4000 _ _).trans (by kernel_rfl)
theorem Zi7  (v1 : List Int) (v5 : List T_Role.ty) (v6 : List Zaa.ty) (v7 : List UInt8) (v8 : Int) (v9 : List (List UInt8)) (v11 : List UInt8) (v12 : Int) (v13 : Int) (v14 : Bool) (v15 : List (List UInt8)) (v17 : Int) : Zcz v1 v5 v6 v7 v8 v9 v11 v12 v13 v14 v15 v17 =
 if decide (v17 < (v15.length : Int)) then
  if decide (0 ≤ v17) then
   (v15[v17.toNat]?).bind fun x1 =>
    (Zcw v9 x1).bind fun x2 =>
     if x2 then
      if (!v14) then
       some false
      else
       Zcz v1 v5 v6 v7 v8 v9 v11 v12 v13 v14 v15 (IntKind.i64.wrap (v17 + 1))
     else
      Zcz v1 v5 v6 v7 v8 v9 v11 v12 v13 v14 v15 (IntKind.i64.wrap (v17 + 1))
  else
   none
 else
  Zbq v1 v5 v6 v7 v8 v9 v11 v12 (IntKind.i64.wrap (v13 + 1)) :=
 (goL_dn _ _ _ 4000 _ _).trans (by kernel_rfl)
theorem Zjb  (v19 : List Zaa.ty) (v20 : List UInt8) (v21 : List Zaa.ty) (v27 : Int) (v28 : Bool) (v29 : Int) : Zc1 v19 v20 v21 v27 v28 v29 =
 if decide (v29 < (v21.length : Int)) then
  if v28 then
   Zc1 v19 v20 v21 v27 true (IntKind.i64.wrap (v29 + 1))
  else
   if decide (0 ≤ v29) then
    (v21[v29.toNat]?).bind fun x1 =>
     if decide (0 ≤ v27) then
      (v19[v27.toNat]?).bind fun x2 =>
       Zc1 v19 v20 v21 v27 ((x1.1 == x2.1) && ((x1.2.1 == x2.2.1) && (x1.2.2.1 == x2.2.2.1))) (IntKind.i64.wrap (v29 + 1))
     else
      none
   else
    none
 else
  if (!v28) then
   some false
  else
   Zb5 v19 v20 v21 (IntKind.i64.wrap (v27 + 1)) :=
 (goL_dn _ _ _ 4000 _ _).trans (by kernel_rfl)
end Go.Ab.P
