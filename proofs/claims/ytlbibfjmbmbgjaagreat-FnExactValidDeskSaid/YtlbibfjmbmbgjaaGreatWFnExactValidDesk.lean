/- The law FnExactValidDesk answers true for every input, whatever it is, and leaves its arguments as they were. Conditions: none. -/
import Derived.Test.YtlbibfjmbmbgjaaGreatQFnExactValidDesk
import Derived.Test.YtlbibfjmbmbgjaaGreatRows
import Derived.WalkKit
import Derived.ProofKit
import Derived.OpenShut
import Derived.JoinedOf
import Derived.Handed
set_option linter.unusedVariables false
set_option maxRecDepth 100000
namespace Go.Proofs.YtlbibfjmbmbgjaaGreat.fnExactValidDesk
open Go.Ab Go.Ab.P
open Go.ChangeShapes Go.WideShapes Go.ChangeAt Go.RowKit
def phiL : List (Nat × Nat) := [(913, 45), (650, 9), (914, 46), (649, 10), (598, 47), (648, 11), (493, 48), (126, 12), (34, 49), (63, 13), (915, 50), (647, 14), (916, 51), (646, 15), (725, 52), (300, 16), (239, 4), (917, 62), (658, 18), (918, 63), (657, 19), (121, 64), (656, 20), (655, 21), (498, 65), (120, 22), (31, 66), (59, 23), (919, 67), (654, 24), (920, 68), (653, 25), (727, 69), (295, 26), (236, 6), (11, 120), (12, 121), (13, 107), (1, 92), (490, 108), (850, 109), (851, 110), (492, 88), (942, 53), (962, 111), (764, 89), (943, 54), (968, 90), (777, 55), (844, 91), (451, 56), (495, 112), (800, 93), (497, 57), (14, 113), (15, 114), (20, 94), (53, 58), (1012, 115), (848, 95), (474, 59), (1054, 116), (1055, 117), (976, 96), (790, 60), (645, 118), (912, 97), (640, 61), (712, 17), (289, 5), (22, 119), (21, 71), (24, 98), (23, 74), (483, 99), (682, 100), (485, 70), (713, 27), (762, 72), (509, 28), (944, 73), (714, 29), (444, 30), (500, 101), (796, 75), (468, 31), (25, 102), (26, 103), (30, 76), (57, 32), (545, 104), (551, 77), (472, 33), (977, 105), (978, 106), (791, 78), (715, 34), (809, 79), (635, 35), (288, 7), (881, 80), (582, 36), (882, 81), (581, 37), (42, 82), (580, 38), (579, 39), (502, 83), (124, 40), (58, 84), (60, 41), (883, 85), (578, 42), (884, 86), (577, 43), (728, 87), (298, 44), (195, 8), (1225, 3)]
def phi (n : Nat) : Nat := (phiL.lookup n).getD 1000000
theorem hm : Tryz.prog.follows .mixedOrders = true := by kernel_rfl
theorem ck_laws_szStack : chkFn Tryz.prog phi 913 laws_szStack_ir = true := by kernel_rfl
theorem ok_laws_szStack : FOk Tryz.prog phi 913 laws_szStack_c := fn_ok hm (D := laws_szStack_D) DOk.nil ck_laws_szStack _ _ _ _
theorem ck_laws_szStackS : chkFn Tryz.prog phi 650 laws_szStackS_ir = true := by kernel_rfl
theorem ok_laws_szStackS : FOk Tryz.prog phi 650 laws_szStackS_c := fn_ok hm (D := laws_szStackS_D) (DOk.cons ok_laws_szStack DOk.nil) ck_laws_szStackS _ _ _ _
theorem ck_laws_szRib : chkFn Tryz.prog phi 914 laws_szRib_ir = true := by kernel_rfl
theorem ok_laws_szRib : FOk Tryz.prog phi 914 laws_szRib_c := fn_ok hm (D := laws_szRib_D) DOk.nil ck_laws_szRib _ _ _ _
theorem ck_laws_szRibS : chkFn Tryz.prog phi 649 laws_szRibS_ir = true := by kernel_rfl
theorem ok_laws_szRibS : FOk Tryz.prog phi 649 laws_szRibS_c := fn_ok hm (D := laws_szRibS_D) (DOk.cons ok_laws_szRib DOk.nil) ck_laws_szRibS _ _ _ _
theorem ck_laws_szInt64S : chkFn Tryz.prog phi 598 laws_szInt64S_ir = true := by kernel_rfl
theorem ok_laws_szInt64S : FOk Tryz.prog phi 598 laws_szInt64S_c := fn_ok hm (D := laws_szInt64S_D) DOk.nil ck_laws_szInt64S _ _ _ _
theorem ck_laws_szInt64SS : chkFn Tryz.prog phi 648 laws_szInt64SS_ir = true := by kernel_rfl
theorem ok_laws_szInt64SS : FOk Tryz.prog phi 648 laws_szInt64SS_c := fn_ok hm (D := laws_szInt64SS_D) (DOk.cons ok_laws_szInt64S DOk.nil) ck_laws_szInt64SS _ _ _ _
theorem ck_laws_szPeg : chkFn Tryz.prog phi 493 laws_szPeg_ir = true := by kernel_rfl
theorem ok_laws_szPeg : FOk Tryz.prog phi 493 laws_szPeg_c := fn_ok hm (D := laws_szPeg_D) DOk.nil ck_laws_szPeg _ _ _ _
theorem ck_laws_szPegS : chkFn Tryz.prog phi 126 laws_szPegS_ir = true := by kernel_rfl
theorem ok_laws_szPegS : FOk Tryz.prog phi 126 laws_szPegS_c := fn_ok hm (D := laws_szPegS_D) (DOk.cons ok_laws_szPeg DOk.nil) ck_laws_szPegS _ _ _ _
theorem ck_laws_szPot : chkFn Tryz.prog phi 34 laws_szPot_ir = true := by kernel_rfl
theorem ok_laws_szPot : FOk Tryz.prog phi 34 laws_szPot_c := fn_ok hm (D := laws_szPot_D) DOk.nil ck_laws_szPot _ _ _ _
theorem ck_laws_szPotS : chkFn Tryz.prog phi 63 laws_szPotS_ir = true := by kernel_rfl
theorem ok_laws_szPotS : FOk Tryz.prog phi 63 laws_szPotS_c := fn_ok hm (D := laws_szPotS_D) (DOk.cons ok_laws_szPot DOk.nil) ck_laws_szPotS _ _ _ _
theorem ck_laws_szMode : chkFn Tryz.prog phi 915 laws_szMode_ir = true := by kernel_rfl
theorem ok_laws_szMode : FOk Tryz.prog phi 915 laws_szMode_c := fn_ok hm (D := laws_szMode_D) DOk.nil ck_laws_szMode _ _ _ _
theorem ck_laws_szModeS : chkFn Tryz.prog phi 647 laws_szModeS_ir = true := by kernel_rfl
theorem ok_laws_szModeS : FOk Tryz.prog phi 647 laws_szModeS_c := fn_ok hm (D := laws_szModeS_D) (DOk.cons ok_laws_szMode DOk.nil) ck_laws_szModeS _ _ _ _
theorem ck_laws_szWork : chkFn Tryz.prog phi 916 laws_szWork_ir = true := by kernel_rfl
theorem ok_laws_szWork : FOk Tryz.prog phi 916 laws_szWork_c := fn_ok hm (D := laws_szWork_D) DOk.nil ck_laws_szWork _ _ _ _
theorem ck_laws_szWorkS : chkFn Tryz.prog phi 646 laws_szWorkS_ir = true := by kernel_rfl
theorem ok_laws_szWorkS : FOk Tryz.prog phi 646 laws_szWorkS_c := fn_ok hm (D := laws_szWorkS_D) (DOk.cons ok_laws_szWork DOk.nil) ck_laws_szWorkS _ _ _ _
theorem ck_laws_szPaper : chkFn Tryz.prog phi 725 laws_szPaper_ir = true := by kernel_rfl
theorem ok_laws_szPaper : FOk Tryz.prog phi 725 laws_szPaper_c := fn_ok hm (D := laws_szPaper_D) DOk.nil ck_laws_szPaper _ _ _ _
theorem ck_laws_szPaperS : chkFn Tryz.prog phi 300 laws_szPaperS_ir = true := by kernel_rfl
theorem ok_laws_szPaperS : FOk Tryz.prog phi 300 laws_szPaperS_c := fn_ok hm (D := laws_szPaperS_D) (DOk.cons ok_laws_szPaper DOk.nil) ck_laws_szPaperS _ _ _ _
theorem ck_laws_szDesk : chkFn Tryz.prog phi 239 laws_szDesk_ir = true := by kernel_rfl
theorem ok_laws_szDesk : FOk Tryz.prog phi 239 laws_szDesk_c := fn_ok hm (D := laws_szDesk_D) (DOk.cons ok_laws_szPotS (DOk.cons ok_laws_szPegS (DOk.cons ok_laws_szPaperS (DOk.cons ok_laws_szWorkS (DOk.cons ok_laws_szModeS (DOk.cons ok_laws_szInt64SS (DOk.cons ok_laws_szRibS (DOk.cons ok_laws_szStackS DOk.nil)))))))) ck_laws_szDesk _ _ _ _
theorem ck_laws_toStack : chkFn Tryz.prog phi 917 laws_toStack_ir = true := by kernel_rfl
theorem ok_laws_toStack : FOk Tryz.prog phi 917 laws_toStack_c := fn_ok hm (D := laws_toStack_D) DOk.nil ck_laws_toStack _ _ _ _
theorem ck_laws_toStackS : chkFn Tryz.prog phi 658 laws_toStackS_ir = true := by kernel_rfl
theorem ok_laws_toStackS : FOk Tryz.prog phi 658 laws_toStackS_c := fn_ok hm (D := laws_toStackS_D) (DOk.cons ok_laws_toStack DOk.nil) ck_laws_toStackS _ _ _ _
theorem ck_laws_toRib : chkFn Tryz.prog phi 918 laws_toRib_ir = true := by kernel_rfl
theorem ok_laws_toRib : FOk Tryz.prog phi 918 laws_toRib_c := fn_ok hm (D := laws_toRib_D) DOk.nil ck_laws_toRib _ _ _ _
theorem ck_laws_toRibS : chkFn Tryz.prog phi 657 laws_toRibS_ir = true := by kernel_rfl
theorem ok_laws_toRibS : FOk Tryz.prog phi 657 laws_toRibS_c := fn_ok hm (D := laws_toRibS_D) (DOk.cons ok_laws_toRib DOk.nil) ck_laws_toRibS _ _ _ _
theorem ck_laws_toInt64S : chkFn Tryz.prog phi 121 laws_toInt64S_ir = true := by kernel_rfl
theorem ok_laws_toInt64S : FOk Tryz.prog phi 121 laws_toInt64S_c := fn_ok hm (D := laws_toInt64S_D) DOk.nil ck_laws_toInt64S _ _ _ _
theorem ck_laws_toInt64SS : chkFn Tryz.prog phi 656 laws_toInt64SS_ir = true := by kernel_rfl
theorem ok_laws_toInt64SS : FOk Tryz.prog phi 656 laws_toInt64SS_c := fn_ok hm (D := laws_toInt64SS_D) (DOk.cons ok_laws_toInt64S DOk.nil) ck_laws_toInt64SS _ _ _ _
theorem ck_laws_toNeck : chkFn Tryz.prog phi 655 laws_toNeck_ir = true := by kernel_rfl
theorem ok_laws_toNeck : FOk Tryz.prog phi 655 laws_toNeck_c := fn_ok hm (D := laws_toNeck_D) DOk.nil ck_laws_toNeck _ _ _ _
theorem ck_laws_toPeg : chkFn Tryz.prog phi 498 laws_toPeg_ir = true := by kernel_rfl
theorem ok_laws_toPeg : FOk Tryz.prog phi 498 laws_toPeg_c := fn_ok hm (D := laws_toPeg_D) DOk.nil ck_laws_toPeg _ _ _ _
theorem ck_laws_toPegS : chkFn Tryz.prog phi 120 laws_toPegS_ir = true := by kernel_rfl
theorem ok_laws_toPegS : FOk Tryz.prog phi 120 laws_toPegS_c := fn_ok hm (D := laws_toPegS_D) (DOk.cons ok_laws_toPeg DOk.nil) ck_laws_toPegS _ _ _ _
theorem ck_laws_toPot : chkFn Tryz.prog phi 31 laws_toPot_ir = true := by kernel_rfl
theorem ok_laws_toPot : FOk Tryz.prog phi 31 laws_toPot_c := fn_ok hm (D := laws_toPot_D) DOk.nil ck_laws_toPot _ _ _ _
theorem ck_laws_toPotS : chkFn Tryz.prog phi 59 laws_toPotS_ir = true := by kernel_rfl
theorem ok_laws_toPotS : FOk Tryz.prog phi 59 laws_toPotS_c := fn_ok hm (D := laws_toPotS_D) (DOk.cons ok_laws_toPot DOk.nil) ck_laws_toPotS _ _ _ _
theorem ck_laws_toMode : chkFn Tryz.prog phi 919 laws_toMode_ir = true := by kernel_rfl
theorem ok_laws_toMode : FOk Tryz.prog phi 919 laws_toMode_c := fn_ok hm (D := laws_toMode_D) DOk.nil ck_laws_toMode _ _ _ _
theorem ck_laws_toModeS : chkFn Tryz.prog phi 654 laws_toModeS_ir = true := by kernel_rfl
theorem ok_laws_toModeS : FOk Tryz.prog phi 654 laws_toModeS_c := fn_ok hm (D := laws_toModeS_D) (DOk.cons ok_laws_toMode DOk.nil) ck_laws_toModeS _ _ _ _
theorem ck_laws_toWork : chkFn Tryz.prog phi 920 laws_toWork_ir = true := by kernel_rfl
theorem ok_laws_toWork : FOk Tryz.prog phi 920 laws_toWork_c := fn_ok hm (D := laws_toWork_D) DOk.nil ck_laws_toWork _ _ _ _
theorem ck_laws_toWorkS : chkFn Tryz.prog phi 653 laws_toWorkS_ir = true := by kernel_rfl
theorem ok_laws_toWorkS : FOk Tryz.prog phi 653 laws_toWorkS_c := fn_ok hm (D := laws_toWorkS_D) (DOk.cons ok_laws_toWork DOk.nil) ck_laws_toWorkS _ _ _ _
theorem ck_laws_toPaper : chkFn Tryz.prog phi 727 laws_toPaper_ir = true := by kernel_rfl
theorem ok_laws_toPaper : FOk Tryz.prog phi 727 laws_toPaper_c := fn_ok hm (D := laws_toPaper_D) DOk.nil ck_laws_toPaper _ _ _ _
theorem ck_laws_toPaperS : chkFn Tryz.prog phi 295 laws_toPaperS_ir = true := by kernel_rfl
theorem ok_laws_toPaperS : FOk Tryz.prog phi 295 laws_toPaperS_c := fn_ok hm (D := laws_toPaperS_D) (DOk.cons ok_laws_toPaper DOk.nil) ck_laws_toPaperS _ _ _ _
theorem ck_laws_toDesk : chkFn Tryz.prog phi 236 laws_toDesk_ir = true := by kernel_rfl
theorem ok_laws_toDesk : FOk Tryz.prog phi 236 laws_toDesk_c := fn_ok hm (D := laws_toDesk_D) (DOk.cons ok_laws_toPotS (DOk.cons ok_laws_toPegS (DOk.cons ok_laws_toPaperS (DOk.cons ok_laws_toWorkS (DOk.cons ok_laws_toModeS (DOk.cons ok_laws_toNeck (DOk.cons ok_laws_toInt64SS (DOk.cons ok_laws_toRibS (DOk.cons ok_laws_toStackS DOk.nil))))))))) ck_laws_toDesk _ _ _ _
theorem ck_spec_l01Small : chkFn Tryz.prog phi 11 spec_l01Small_ir = true := by kernel_rfl
theorem ok_spec_l01Small : FOk Tryz.prog phi 11 spec_l01Small_c := fn_ok hm (D := spec_l01Small_D) DOk.nil ck_spec_l01Small _ _ _ _
theorem ck_spec_l01Digit : chkFn Tryz.prog phi 12 spec_l01Digit_ir = true := by kernel_rfl
theorem ok_spec_l01Digit : FOk Tryz.prog phi 12 spec_l01Digit_c := fn_ok hm (D := spec_l01Digit_D) DOk.nil ck_spec_l01Digit _ _ _ _
theorem ck_spec_l01Name : chkFn Tryz.prog phi 13 spec_l01Name_ir = true := by kernel_rfl
theorem ok_spec_l01Name : FOk Tryz.prog phi 13 spec_l01Name_c := fn_ok hm (D := spec_l01Name_D) (DOk.cons ok_spec_l01Small (DOk.cons ok_spec_l01Digit DOk.nil)) ck_spec_l01Name _ _ _ _
theorem ck_spec_l00In : chkFn Tryz.prog phi 1 spec_l00In_ir = true := by kernel_rfl
theorem ok_spec_l00In : FOk Tryz.prog phi 1 spec_l00In_c := fn_ok hm (D := spec_l00In_D) DOk.nil ck_spec_l00In _ _ _ _
theorem ck_spec_l04Share : chkFn Tryz.prog phi 490 spec_l04Share_ir = true := by kernel_rfl
theorem ok_spec_l04Share : FOk Tryz.prog phi 490 spec_l04Share_c := fn_ok hm (D := spec_l04Share_D) (DOk.cons ok_spec_l00In DOk.nil) ck_spec_l04Share _ _ _ _
theorem ck_spec_l04Thick : chkFn Tryz.prog phi 850 spec_l04Thick_ir = true := by kernel_rfl
theorem ok_spec_l04Thick : FOk Tryz.prog phi 850 spec_l04Thick_c := fn_ok hm (D := spec_l04Thick_D) (DOk.cons ok_spec_l00In DOk.nil) ck_spec_l04Thick _ _ _ _
theorem ck_spec_l02Day : chkFn Tryz.prog phi 851 spec_l02Day_ir = true := by kernel_rfl
theorem ok_spec_l02Day : FOk Tryz.prog phi 851 spec_l02Day_c := fn_ok hm (D := spec_l02Day_D) (DOk.cons ok_spec_l00In DOk.nil) ck_spec_l02Day _ _ _ _
theorem ck_spec_l04One : chkFn Tryz.prog phi 492 spec_l04One_ir = true := by kernel_rfl
theorem ok_spec_l04One : FOk Tryz.prog phi 492 spec_l04One_c := fn_ok hm (D := spec_l04One_D) (DOk.cons ok_spec_l01Name (DOk.cons ok_spec_l04Share (DOk.cons ok_spec_l04Thick (DOk.cons ok_spec_l02Day DOk.nil)))) ck_spec_l04One _ _ _ _
theorem ck_spec_l04Ok : chkFn Tryz.prog phi 942 spec_l04Ok_ir = true := by kernel_rfl
theorem ok_spec_l04Ok : FOk Tryz.prog phi 942 spec_l04Ok_c := fn_ok hm (D := spec_l04Ok_D) (DOk.cons ok_spec_l04One DOk.nil) ck_spec_l04Ok _ _ _ _
theorem ck_spec_l06Size : chkFn Tryz.prog phi 962 spec_l06Size_ir = true := by kernel_rfl
theorem ok_spec_l06Size : FOk Tryz.prog phi 962 spec_l06Size_c := fn_ok hm (D := spec_l06Size_D) (DOk.cons ok_spec_l00In DOk.nil) ck_spec_l06Size _ _ _ _
theorem ck_spec_l06One : chkFn Tryz.prog phi 764 spec_l06One_ir = true := by kernel_rfl
theorem ok_spec_l06One : FOk Tryz.prog phi 764 spec_l06One_c := fn_ok hm (D := spec_l06One_D) (DOk.cons ok_spec_l01Name (DOk.cons ok_spec_l06Size DOk.nil)) ck_spec_l06One _ _ _ _
theorem ck_spec_l06Ok : chkFn Tryz.prog phi 943 spec_l06Ok_ir = true := by kernel_rfl
theorem ok_spec_l06Ok : FOk Tryz.prog phi 943 spec_l06Ok_c := fn_ok hm (D := spec_l06Ok_D) (DOk.cons ok_spec_l06One DOk.nil) ck_spec_l06Ok _ _ _ _
theorem ck_spec_l08Thick : chkFn Tryz.prog phi 968 spec_l08Thick_ir = true := by kernel_rfl
theorem ok_spec_l08Thick : FOk Tryz.prog phi 968 spec_l08Thick_c := fn_ok hm (D := spec_l08Thick_D) (DOk.cons ok_spec_l00In DOk.nil) ck_spec_l08Thick _ _ _ _
theorem ck_spec_l08Ok : chkFn Tryz.prog phi 777 spec_l08Ok_ir = true := by kernel_rfl
theorem ok_spec_l08Ok : FOk Tryz.prog phi 777 spec_l08Ok_c := fn_ok hm (D := spec_l08Ok_D) (DOk.cons ok_spec_l08Thick DOk.nil) ck_spec_l08Ok _ _ _ _
theorem ck_spec_l10Size : chkFn Tryz.prog phi 844 spec_l10Size_ir = true := by kernel_rfl
theorem ok_spec_l10Size : FOk Tryz.prog phi 844 spec_l10Size_c := fn_ok hm (D := spec_l10Size_D) (DOk.cons ok_spec_l00In DOk.nil) ck_spec_l10Size _ _ _ _
theorem ck_spec_l10Ok : chkFn Tryz.prog phi 451 spec_l10Ok_ir = true := by kernel_rfl
theorem ok_spec_l10Ok : FOk Tryz.prog phi 451 spec_l10Ok_c := fn_ok hm (D := spec_l10Ok_D) (DOk.cons ok_spec_l00In (DOk.cons ok_spec_l10Size DOk.nil)) ck_spec_l10Ok _ _ _ _
theorem ck_spec_l12Hole : chkFn Tryz.prog phi 495 spec_l12Hole_ir = true := by kernel_rfl
theorem ok_spec_l12Hole : FOk Tryz.prog phi 495 spec_l12Hole_c := fn_ok hm (D := spec_l12Hole_D) (DOk.cons ok_spec_l00In DOk.nil) ck_spec_l12Hole _ _ _ _
theorem ck_spec_l12One : chkFn Tryz.prog phi 800 spec_l12One_ir = true := by kernel_rfl
theorem ok_spec_l12One : FOk Tryz.prog phi 800 spec_l12One_c := fn_ok hm (D := spec_l12One_D) (DOk.cons ok_spec_l00In (DOk.cons ok_spec_l01Name (DOk.cons ok_spec_l12Hole DOk.nil))) ck_spec_l12One _ _ _ _
theorem ck_spec_l12Ok : chkFn Tryz.prog phi 497 spec_l12Ok_ir = true := by kernel_rfl
theorem ok_spec_l12Ok : FOk Tryz.prog phi 497 spec_l12Ok_c := fn_ok hm (D := spec_l12Ok_D) (DOk.cons ok_spec_l12One DOk.nil) ck_spec_l12Ok _ _ _ _
theorem ck_spec_l14Grams : chkFn Tryz.prog phi 14 spec_l14Grams_ir = true := by kernel_rfl
theorem ok_spec_l14Grams : FOk Tryz.prog phi 14 spec_l14Grams_c := fn_ok hm (D := spec_l14Grams_D) (DOk.cons ok_spec_l00In DOk.nil) ck_spec_l14Grams _ _ _ _
theorem ck_spec_l14Heat : chkFn Tryz.prog phi 15 spec_l14Heat_ir = true := by kernel_rfl
theorem ok_spec_l14Heat : FOk Tryz.prog phi 15 spec_l14Heat_c := fn_ok hm (D := spec_l14Heat_D) (DOk.cons ok_spec_l00In DOk.nil) ck_spec_l14Heat _ _ _ _
theorem ck_spec_l14One : chkFn Tryz.prog phi 20 spec_l14One_ir = true := by kernel_rfl
theorem ok_spec_l14One : FOk Tryz.prog phi 20 spec_l14One_c := fn_ok hm (D := spec_l14One_D) (DOk.cons ok_spec_l00In (DOk.cons ok_spec_l01Name (DOk.cons ok_spec_l14Grams (DOk.cons ok_spec_l14Heat DOk.nil)))) ck_spec_l14One _ _ _ _
theorem ck_spec_l14Ok : chkFn Tryz.prog phi 53 spec_l14Ok_ir = true := by kernel_rfl
theorem ok_spec_l14Ok : FOk Tryz.prog phi 53 spec_l14Ok_c := fn_ok hm (D := spec_l14Ok_D) (DOk.cons ok_spec_l14One DOk.nil) ck_spec_l14Ok _ _ _ _
theorem ck_spec_l16Tone : chkFn Tryz.prog phi 1012 spec_l16Tone_ir = true := by kernel_rfl
theorem ok_spec_l16Tone : FOk Tryz.prog phi 1012 spec_l16Tone_c := fn_ok hm (D := spec_l16Tone_D) (DOk.cons ok_spec_l00In DOk.nil) ck_spec_l16Tone _ _ _ _
theorem ck_spec_l16One : chkFn Tryz.prog phi 848 spec_l16One_ir = true := by kernel_rfl
theorem ok_spec_l16One : FOk Tryz.prog phi 848 spec_l16One_c := fn_ok hm (D := spec_l16One_D) (DOk.cons ok_spec_l00In (DOk.cons ok_spec_l01Name (DOk.cons ok_spec_l16Tone DOk.nil))) ck_spec_l16One _ _ _ _
theorem ck_spec_l16Ok : chkFn Tryz.prog phi 474 spec_l16Ok_ir = true := by kernel_rfl
theorem ok_spec_l16Ok : FOk Tryz.prog phi 474 spec_l16Ok_c := fn_ok hm (D := spec_l16Ok_D) (DOk.cons ok_spec_l16One DOk.nil) ck_spec_l16Ok _ _ _ _
theorem ck_spec_l18Days : chkFn Tryz.prog phi 1054 spec_l18Days_ir = true := by kernel_rfl
theorem ok_spec_l18Days : FOk Tryz.prog phi 1054 spec_l18Days_c := fn_ok hm (D := spec_l18Days_D) (DOk.cons ok_spec_l00In DOk.nil) ck_spec_l18Days _ _ _ _
theorem ck_spec_l18Day : chkFn Tryz.prog phi 1055 spec_l18Day_ir = true := by kernel_rfl
theorem ok_spec_l18Day : FOk Tryz.prog phi 1055 spec_l18Day_c := fn_ok hm (D := spec_l18Day_D) (DOk.cons ok_spec_l00In DOk.nil) ck_spec_l18Day _ _ _ _
theorem ck_spec_l18One : chkFn Tryz.prog phi 976 spec_l18One_ir = true := by kernel_rfl
theorem ok_spec_l18One : FOk Tryz.prog phi 976 spec_l18One_c := fn_ok hm (D := spec_l18One_D) (DOk.cons ok_spec_l01Name (DOk.cons ok_spec_l18Days (DOk.cons ok_spec_l18Day DOk.nil))) ck_spec_l18One _ _ _ _
theorem ck_spec_l18Ok : chkFn Tryz.prog phi 790 spec_l18Ok_ir = true := by kernel_rfl
theorem ok_spec_l18Ok : FOk Tryz.prog phi 790 spec_l18Ok_c := fn_ok hm (D := spec_l18Ok_D) (DOk.cons ok_spec_l18One DOk.nil) ck_spec_l18Ok _ _ _ _
theorem ck_spec_l20Year : chkFn Tryz.prog phi 645 spec_l20Year_ir = true := by kernel_rfl
theorem ok_spec_l20Year : FOk Tryz.prog phi 645 spec_l20Year_c := fn_ok hm (D := spec_l20Year_D) (DOk.cons ok_spec_l00In DOk.nil) ck_spec_l20Year _ _ _ _
theorem ck_spec_l20One : chkFn Tryz.prog phi 912 spec_l20One_ir = true := by kernel_rfl
theorem ok_spec_l20One : FOk Tryz.prog phi 912 spec_l20One_c := fn_ok hm (D := spec_l20One_D) (DOk.cons ok_spec_l00In (DOk.cons ok_spec_l01Name (DOk.cons ok_spec_l20Year DOk.nil))) ck_spec_l20One _ _ _ _
theorem ck_spec_l20Ok : chkFn Tryz.prog phi 640 spec_l20Ok_ir = true := by kernel_rfl
theorem ok_spec_l20Ok : FOk Tryz.prog phi 640 spec_l20Ok_c := fn_ok hm (D := spec_l20Ok_D) (DOk.cons ok_spec_l20One DOk.nil) ck_spec_l20Ok _ _ _ _
theorem ck_spec_l32Ok : chkFn Tryz.prog phi 712 spec_l32Ok_ir = true := by kernel_rfl
theorem ok_spec_l32Ok : FOk Tryz.prog phi 712 spec_l32Ok_c := fn_ok hm (D := spec_l32Ok_D) (DOk.cons ok_spec_l14Ok (DOk.cons ok_spec_l10Ok (DOk.cons ok_spec_l16Ok (DOk.cons ok_spec_l12Ok (DOk.cons ok_spec_l20Ok (DOk.cons ok_spec_l08Ok (DOk.cons ok_spec_l18Ok (DOk.cons ok_spec_l04Ok (DOk.cons ok_spec_l06Ok DOk.nil))))))))) ck_spec_l32Ok _ _ _ _
theorem ck_spec_ValidDesk : chkFn Tryz.prog phi 289 spec_ValidDesk_ir = true := by kernel_rfl
theorem ok_spec_ValidDesk : FOk Tryz.prog phi 289 spec_ValidDesk_c := fn_ok hm (D := spec_ValidDesk_D) (DOk.cons ok_spec_l32Ok DOk.nil) ck_spec_ValidDesk _ _ _ _
theorem ck_impl_isDigit : chkFn Tryz.prog phi 22 impl_isDigit_ir = true := by kernel_rfl
theorem ok_impl_isDigit : FOk Tryz.prog phi 22 impl_isDigit_c := fn_ok hm (D := impl_isDigit_D) DOk.nil ck_impl_isDigit _ _ _ _
theorem ck_impl_few : chkFn Tryz.prog phi 21 impl_few_ir = true := by kernel_rfl
theorem ok_impl_few : FOk Tryz.prog phi 21 impl_few_c := fn_ok hm (D := impl_few_D) DOk.nil ck_impl_few _ _ _ _
theorem ck_impl_IsName : chkFn Tryz.prog phi 24 impl_IsName_ir = true := by kernel_rfl
theorem ok_impl_IsName : FOk Tryz.prog phi 24 impl_IsName_c := fn_ok hm (D := impl_IsName_D) (DOk.cons ok_impl_few (DOk.cons ok_impl_isDigit DOk.nil)) ck_impl_IsName _ _ _ _
theorem ck_impl_within : chkFn Tryz.prog phi 23 impl_within_ir = true := by kernel_rfl
theorem ok_impl_within : FOk Tryz.prog phi 23 impl_within_c := fn_ok hm (D := impl_within_D) DOk.nil ck_impl_within _ _ _ _
theorem ck_impl_isPart : chkFn Tryz.prog phi 483 impl_isPart_ir = true := by kernel_rfl
theorem ok_impl_isPart : FOk Tryz.prog phi 483 impl_isPart_c := fn_ok hm (D := impl_isPart_D) (DOk.cons ok_impl_within DOk.nil) ck_impl_isPart _ _ _ _
theorem ck_impl_isDay : chkFn Tryz.prog phi 682 impl_isDay_ir = true := by kernel_rfl
theorem ok_impl_isDay : FOk Tryz.prog phi 682 impl_isDay_c := fn_ok hm (D := impl_isDay_D) (DOk.cons ok_impl_within DOk.nil) ck_impl_isDay _ _ _ _
theorem ck_impl_Stack_valid : chkFn Tryz.prog phi 485 impl_Stack_valid_ir = true := by kernel_rfl
theorem ok_impl_Stack_valid : FOk Tryz.prog phi 485 impl_Stack_valid_c := fn_ok hm (D := impl_Stack_valid_D) (DOk.cons ok_impl_within (DOk.cons ok_impl_IsName (DOk.cons ok_impl_isPart (DOk.cons ok_impl_isDay DOk.nil)))) ck_impl_Stack_valid _ _ _ _
theorem ck_impl_ValidStacks : chkFn Tryz.prog phi 713 impl_ValidStacks_ir = true := by kernel_rfl
theorem ok_impl_ValidStacks : FOk Tryz.prog phi 713 impl_ValidStacks_c := fn_ok hm (D := impl_ValidStacks_D) (DOk.cons ok_impl_few (DOk.cons ok_impl_Stack_valid DOk.nil)) ck_impl_ValidStacks _ _ _ _
theorem ck_impl_Rib_valid : chkFn Tryz.prog phi 762 impl_Rib_valid_ir = true := by kernel_rfl
theorem ok_impl_Rib_valid : FOk Tryz.prog phi 762 impl_Rib_valid_c := fn_ok hm (D := impl_Rib_valid_D) (DOk.cons ok_impl_within (DOk.cons ok_impl_IsName DOk.nil)) ck_impl_Rib_valid _ _ _ _
theorem ck_impl_ValidRibs : chkFn Tryz.prog phi 509 impl_ValidRibs_ir = true := by kernel_rfl
theorem ok_impl_ValidRibs : FOk Tryz.prog phi 509 impl_ValidRibs_c := fn_ok hm (D := impl_ValidRibs_D) (DOk.cons ok_impl_few (DOk.cons ok_impl_Rib_valid DOk.nil)) ck_impl_ValidRibs _ _ _ _
theorem ck_impl_isGrid : chkFn Tryz.prog phi 944 impl_isGrid_ir = true := by kernel_rfl
theorem ok_impl_isGrid : FOk Tryz.prog phi 944 impl_isGrid_c := fn_ok hm (D := impl_isGrid_D) (DOk.cons ok_impl_within DOk.nil) ck_impl_isGrid _ _ _ _
theorem ck_impl_ValidPlate : chkFn Tryz.prog phi 714 impl_ValidPlate_ir = true := by kernel_rfl
theorem ok_impl_ValidPlate : FOk Tryz.prog phi 714 impl_ValidPlate_c := fn_ok hm (D := impl_ValidPlate_D) (DOk.cons ok_impl_isGrid DOk.nil) ck_impl_ValidPlate _ _ _ _
theorem ck_impl_ValidNeck : chkFn Tryz.prog phi 444 impl_ValidNeck_ir = true := by kernel_rfl
theorem ok_impl_ValidNeck : FOk Tryz.prog phi 444 impl_ValidNeck_c := fn_ok hm (D := impl_ValidNeck_D) (DOk.cons ok_impl_within DOk.nil) ck_impl_ValidNeck _ _ _ _
theorem ck_impl_isHole : chkFn Tryz.prog phi 500 impl_isHole_ir = true := by kernel_rfl
theorem ok_impl_isHole : FOk Tryz.prog phi 500 impl_isHole_c := fn_ok hm (D := impl_isHole_D) (DOk.cons ok_impl_within DOk.nil) ck_impl_isHole _ _ _ _
theorem ck_impl_Peg_valid : chkFn Tryz.prog phi 796 impl_Peg_valid_ir = true := by kernel_rfl
theorem ok_impl_Peg_valid : FOk Tryz.prog phi 796 impl_Peg_valid_c := fn_ok hm (D := impl_Peg_valid_D) (DOk.cons ok_impl_within (DOk.cons ok_impl_IsName (DOk.cons ok_impl_isHole DOk.nil))) ck_impl_Peg_valid _ _ _ _
theorem ck_impl_ValidPegs : chkFn Tryz.prog phi 468 impl_ValidPegs_ir = true := by kernel_rfl
theorem ok_impl_ValidPegs : FOk Tryz.prog phi 468 impl_ValidPegs_c := fn_ok hm (D := impl_ValidPegs_D) (DOk.cons ok_impl_few (DOk.cons ok_impl_Peg_valid DOk.nil)) ck_impl_ValidPegs _ _ _ _
theorem ck_impl_isGrams : chkFn Tryz.prog phi 25 impl_isGrams_ir = true := by kernel_rfl
theorem ok_impl_isGrams : FOk Tryz.prog phi 25 impl_isGrams_c := fn_ok hm (D := impl_isGrams_D) (DOk.cons ok_impl_within DOk.nil) ck_impl_isGrams _ _ _ _
theorem ck_impl_isHeat : chkFn Tryz.prog phi 26 impl_isHeat_ir = true := by kernel_rfl
theorem ok_impl_isHeat : FOk Tryz.prog phi 26 impl_isHeat_c := fn_ok hm (D := impl_isHeat_D) (DOk.cons ok_impl_within DOk.nil) ck_impl_isHeat _ _ _ _
theorem ck_impl_Pot_valid : chkFn Tryz.prog phi 30 impl_Pot_valid_ir = true := by kernel_rfl
theorem ok_impl_Pot_valid : FOk Tryz.prog phi 30 impl_Pot_valid_c := fn_ok hm (D := impl_Pot_valid_D) (DOk.cons ok_impl_within (DOk.cons ok_impl_IsName (DOk.cons ok_impl_isGrams (DOk.cons ok_impl_isHeat DOk.nil)))) ck_impl_Pot_valid _ _ _ _
theorem ck_impl_ValidPots : chkFn Tryz.prog phi 57 impl_ValidPots_ir = true := by kernel_rfl
theorem ok_impl_ValidPots : FOk Tryz.prog phi 57 impl_ValidPots_c := fn_ok hm (D := impl_ValidPots_D) (DOk.cons ok_impl_few (DOk.cons ok_impl_Pot_valid DOk.nil)) ck_impl_ValidPots _ _ _ _
theorem ck_impl_isTone : chkFn Tryz.prog phi 545 impl_isTone_ir = true := by kernel_rfl
theorem ok_impl_isTone : FOk Tryz.prog phi 545 impl_isTone_c := fn_ok hm (D := impl_isTone_D) (DOk.cons ok_impl_within DOk.nil) ck_impl_isTone _ _ _ _
theorem ck_impl_Mode_valid : chkFn Tryz.prog phi 551 impl_Mode_valid_ir = true := by kernel_rfl
theorem ok_impl_Mode_valid : FOk Tryz.prog phi 551 impl_Mode_valid_c := fn_ok hm (D := impl_Mode_valid_D) (DOk.cons ok_impl_within (DOk.cons ok_impl_IsName (DOk.cons ok_impl_isTone DOk.nil))) ck_impl_Mode_valid _ _ _ _
theorem ck_impl_ValidModes : chkFn Tryz.prog phi 472 impl_ValidModes_ir = true := by kernel_rfl
theorem ok_impl_ValidModes : FOk Tryz.prog phi 472 impl_ValidModes_c := fn_ok hm (D := impl_ValidModes_D) (DOk.cons ok_impl_few (DOk.cons ok_impl_Mode_valid DOk.nil)) ck_impl_ValidModes _ _ _ _
theorem ck_impl_isSpan : chkFn Tryz.prog phi 977 impl_isSpan_ir = true := by kernel_rfl
theorem ok_impl_isSpan : FOk Tryz.prog phi 977 impl_isSpan_c := fn_ok hm (D := impl_isSpan_D) (DOk.cons ok_impl_within DOk.nil) ck_impl_isSpan _ _ _ _
theorem ck_impl_isDate : chkFn Tryz.prog phi 978 impl_isDate_ir = true := by kernel_rfl
theorem ok_impl_isDate : FOk Tryz.prog phi 978 impl_isDate_c := fn_ok hm (D := impl_isDate_D) (DOk.cons ok_impl_within DOk.nil) ck_impl_isDate _ _ _ _
theorem ck_impl_Work_valid : chkFn Tryz.prog phi 791 impl_Work_valid_ir = true := by kernel_rfl
theorem ok_impl_Work_valid : FOk Tryz.prog phi 791 impl_Work_valid_c := fn_ok hm (D := impl_Work_valid_D) (DOk.cons ok_impl_IsName (DOk.cons ok_impl_isSpan (DOk.cons ok_impl_isDate DOk.nil))) ck_impl_Work_valid _ _ _ _
theorem ck_impl_ValidWorks : chkFn Tryz.prog phi 715 impl_ValidWorks_ir = true := by kernel_rfl
theorem ok_impl_ValidWorks : FOk Tryz.prog phi 715 impl_ValidWorks_c := fn_ok hm (D := impl_ValidWorks_D) (DOk.cons ok_impl_few (DOk.cons ok_impl_Work_valid DOk.nil)) ck_impl_ValidWorks _ _ _ _
theorem ck_impl_Paper_valid : chkFn Tryz.prog phi 809 impl_Paper_valid_ir = true := by kernel_rfl
theorem ok_impl_Paper_valid : FOk Tryz.prog phi 809 impl_Paper_valid_c := fn_ok hm (D := impl_Paper_valid_D) (DOk.cons ok_impl_within (DOk.cons ok_impl_IsName DOk.nil)) ck_impl_Paper_valid _ _ _ _
theorem ck_impl_ValidPapers : chkFn Tryz.prog phi 635 impl_ValidPapers_ir = true := by kernel_rfl
theorem ok_impl_ValidPapers : FOk Tryz.prog phi 635 impl_ValidPapers_c := fn_ok hm (D := impl_ValidPapers_D) (DOk.cons ok_impl_few (DOk.cons ok_impl_Paper_valid DOk.nil)) ck_impl_ValidPapers _ _ _ _
theorem ck_impl_ValidDesk : chkFn Tryz.prog phi 288 impl_ValidDesk_ir = true := by kernel_rfl
theorem ok_impl_ValidDesk : FOk Tryz.prog phi 288 impl_ValidDesk_c := fn_ok hm (D := impl_ValidDesk_D) (DOk.cons ok_impl_ValidPots (DOk.cons ok_impl_ValidNeck (DOk.cons ok_impl_ValidPegs (DOk.cons ok_impl_ValidModes (DOk.cons ok_impl_ValidRibs (DOk.cons ok_impl_ValidPapers (DOk.cons ok_impl_ValidStacks (DOk.cons ok_impl_ValidPlate (DOk.cons ok_impl_ValidWorks DOk.nil))))))))) ck_impl_ValidDesk _ _ _ _
theorem ck_laws_eqStack : chkFn Tryz.prog phi 881 laws_eqStack_ir = true := by kernel_rfl
theorem ok_laws_eqStack : FOk Tryz.prog phi 881 laws_eqStack_c := fn_ok hm (D := laws_eqStack_D) DOk.nil ck_laws_eqStack _ _ _ _
theorem ck_laws_eqStackS : chkFn Tryz.prog phi 582 laws_eqStackS_ir = true := by kernel_rfl
theorem ok_laws_eqStackS : FOk Tryz.prog phi 582 laws_eqStackS_c := fn_ok hm (D := laws_eqStackS_D) (DOk.cons ok_laws_eqStack DOk.nil) ck_laws_eqStackS _ _ _ _
theorem ck_laws_eqRib : chkFn Tryz.prog phi 882 laws_eqRib_ir = true := by kernel_rfl
theorem ok_laws_eqRib : FOk Tryz.prog phi 882 laws_eqRib_c := fn_ok hm (D := laws_eqRib_D) DOk.nil ck_laws_eqRib _ _ _ _
theorem ck_laws_eqRibS : chkFn Tryz.prog phi 581 laws_eqRibS_ir = true := by kernel_rfl
theorem ok_laws_eqRibS : FOk Tryz.prog phi 581 laws_eqRibS_c := fn_ok hm (D := laws_eqRibS_D) (DOk.cons ok_laws_eqRib DOk.nil) ck_laws_eqRibS _ _ _ _
theorem ck_laws_eqInt64S : chkFn Tryz.prog phi 42 laws_eqInt64S_ir = true := by kernel_rfl
theorem ok_laws_eqInt64S : FOk Tryz.prog phi 42 laws_eqInt64S_c := fn_ok hm (D := laws_eqInt64S_D) DOk.nil ck_laws_eqInt64S _ _ _ _
theorem ck_laws_eqInt64SS : chkFn Tryz.prog phi 580 laws_eqInt64SS_ir = true := by kernel_rfl
theorem ok_laws_eqInt64SS : FOk Tryz.prog phi 580 laws_eqInt64SS_c := fn_ok hm (D := laws_eqInt64SS_D) (DOk.cons ok_laws_eqInt64S DOk.nil) ck_laws_eqInt64SS _ _ _ _
theorem ck_laws_eqNeck : chkFn Tryz.prog phi 579 laws_eqNeck_ir = true := by kernel_rfl
theorem ok_laws_eqNeck : FOk Tryz.prog phi 579 laws_eqNeck_c := fn_ok hm (D := laws_eqNeck_D) DOk.nil ck_laws_eqNeck _ _ _ _
theorem ck_laws_eqPeg : chkFn Tryz.prog phi 502 laws_eqPeg_ir = true := by kernel_rfl
theorem ok_laws_eqPeg : FOk Tryz.prog phi 502 laws_eqPeg_c := fn_ok hm (D := laws_eqPeg_D) DOk.nil ck_laws_eqPeg _ _ _ _
theorem ck_laws_eqPegS : chkFn Tryz.prog phi 124 laws_eqPegS_ir = true := by kernel_rfl
theorem ok_laws_eqPegS : FOk Tryz.prog phi 124 laws_eqPegS_c := fn_ok hm (D := laws_eqPegS_D) (DOk.cons ok_laws_eqPeg DOk.nil) ck_laws_eqPegS _ _ _ _
theorem ck_laws_eqPot : chkFn Tryz.prog phi 58 laws_eqPot_ir = true := by kernel_rfl
theorem ok_laws_eqPot : FOk Tryz.prog phi 58 laws_eqPot_c := fn_ok hm (D := laws_eqPot_D) DOk.nil ck_laws_eqPot _ _ _ _
theorem ck_laws_eqPotS : chkFn Tryz.prog phi 60 laws_eqPotS_ir = true := by kernel_rfl
theorem ok_laws_eqPotS : FOk Tryz.prog phi 60 laws_eqPotS_c := fn_ok hm (D := laws_eqPotS_D) (DOk.cons ok_laws_eqPot DOk.nil) ck_laws_eqPotS _ _ _ _
theorem ck_laws_eqMode : chkFn Tryz.prog phi 883 laws_eqMode_ir = true := by kernel_rfl
theorem ok_laws_eqMode : FOk Tryz.prog phi 883 laws_eqMode_c := fn_ok hm (D := laws_eqMode_D) DOk.nil ck_laws_eqMode _ _ _ _
theorem ck_laws_eqModeS : chkFn Tryz.prog phi 578 laws_eqModeS_ir = true := by kernel_rfl
theorem ok_laws_eqModeS : FOk Tryz.prog phi 578 laws_eqModeS_c := fn_ok hm (D := laws_eqModeS_D) (DOk.cons ok_laws_eqMode DOk.nil) ck_laws_eqModeS _ _ _ _
theorem ck_laws_eqWork : chkFn Tryz.prog phi 884 laws_eqWork_ir = true := by kernel_rfl
theorem ok_laws_eqWork : FOk Tryz.prog phi 884 laws_eqWork_c := fn_ok hm (D := laws_eqWork_D) DOk.nil ck_laws_eqWork _ _ _ _
theorem ck_laws_eqWorkS : chkFn Tryz.prog phi 577 laws_eqWorkS_ir = true := by kernel_rfl
theorem ok_laws_eqWorkS : FOk Tryz.prog phi 577 laws_eqWorkS_c := fn_ok hm (D := laws_eqWorkS_D) (DOk.cons ok_laws_eqWork DOk.nil) ck_laws_eqWorkS _ _ _ _
theorem ck_laws_eqPaper : chkFn Tryz.prog phi 728 laws_eqPaper_ir = true := by kernel_rfl
theorem ok_laws_eqPaper : FOk Tryz.prog phi 728 laws_eqPaper_c := fn_ok hm (D := laws_eqPaper_D) DOk.nil ck_laws_eqPaper _ _ _ _
theorem ck_laws_eqPaperS : chkFn Tryz.prog phi 298 laws_eqPaperS_ir = true := by kernel_rfl
theorem ok_laws_eqPaperS : FOk Tryz.prog phi 298 laws_eqPaperS_c := fn_ok hm (D := laws_eqPaperS_D) (DOk.cons ok_laws_eqPaper DOk.nil) ck_laws_eqPaperS _ _ _ _
theorem ck_laws_eqDesk : chkFn Tryz.prog phi 195 laws_eqDesk_ir = true := by kernel_rfl
theorem ok_laws_eqDesk : FOk Tryz.prog phi 195 laws_eqDesk_c := fn_ok hm (D := laws_eqDesk_D) (DOk.cons ok_laws_eqPotS (DOk.cons ok_laws_eqPegS (DOk.cons ok_laws_eqPaperS (DOk.cons ok_laws_eqWorkS (DOk.cons ok_laws_eqModeS (DOk.cons ok_laws_eqNeck (DOk.cons ok_laws_eqInt64SS (DOk.cons ok_laws_eqRibS (DOk.cons ok_laws_eqStackS DOk.nil))))))))) ck_laws_eqDesk _ _ _ _
theorem ck_laws_FnExactValidDesk : chkFn Tryz.prog phi 1225 laws_FnExactValidDesk_ir = true := by kernel_rfl
theorem ok_laws_FnExactValidDesk : FOk Tryz.prog phi 1225 laws_FnExactValidDesk_c := fn_ok hm (D := laws_FnExactValidDesk_D) (DOk.cons ok_laws_eqDesk (DOk.cons ok_laws_toDesk (DOk.cons ok_laws_szDesk (DOk.cons ok_impl_ValidDesk (DOk.cons ok_spec_ValidDesk DOk.nil))))) ck_laws_FnExactValidDesk _ _ _ _
theorem law : ∀ x, wfU laws_FnExactValidDesk_c.ps x → ∃ y, laws_FnExactValidDesk_c.f x = some y ∧ resA laws_FnExactValidDesk_c y = ([A.bool true], []) := fun x hx => ⟨true, (laws_FnExactValidDesk_true x.1 hx.1), rfl⟩
theorem own : ownKnob Tryz.prog.godebug = none := by kernel_rfl
theorem laid : laidOutB Tryz.prog = true := by kernel_rfl
theorem reads : ∀ t ∈ Tryz.f3.params.toList, Tryz.prog.readableRec t = true ∧ t < Tryz.prog.types.size := by
  have h : (Tryz.f3.params.toList.all fun t => Tryz.prog.readableRec t && decide (t < Tryz.prog.types.size)) = true := by kernel_rfl
  intro t ht
  have := List.all_eq_true.1 h t ht
  simpa only [Bool.and_eq_true, decide_eq_true_eq] using this
theorem spec_eq (H : Type) : ∀ (ds : List (DataW H)), ds.length = Tryz.f3.params.toList.length → Rows.fnExactValidDeskSpec.fn H ds = { results := [.lit (.bool true)], args := ds } := by
  intro ds hd
  have hd : ds.length = 1 := hd
  match ds, hd with
  | [d0], _ => rfl
theorem contract (H : Type) (enc : TypeId × Value → H) (W : World) (base : Nat) (args : Array Value) (ds gs : List (DataW H)) (before : List MemPlace)
    (hval : ∀ (j : Nat) t v, Tryz.f3.params[j]? = some t → args[j]? = some v → Value.okWide Tryz.prog W .any base t v)
    (hW : DataW.Whole enc Tryz.prog Tryz.f3.params.toList Rows.fnExactValidDeskSpec.vars false W args.toList ds gs before) :
    Calls Tryz.prog 3 args W fun e W' => ∃ v, e = .returned v ∧ Rows.fnExactValidDeskSpec.post enc Tryz.prog Tryz.f3 false true false false W args v W' :=
  row_contract (φ := phi) (g := 1225) (n := 20) ok_laws_FnExactValidDesk rfl rfl (tb := 4) Tryz.underlying4 (by kernel_rfl) rfl law laid reads spec_eq W base args ds gs before hval hW
theorem lifted (os : Os) (started : os.Started) (H : Type) (enc : TypeId × Value → H) :
    ReturnsInHanded {} Tryz.checked os 3 .any (Rows.fnExactValidDeskSpec.pre6 enc Tryz.prog Tryz.f3 Rows.fnExactValidDeskRow.domain false) (Rows.fnExactValidDeskSpec.post enc Tryz.prog Tryz.f3 false true false false) := by
  refine returnsInHanded_of_change (C := Tryz.checked) own started (by kernel_rfl) Tryz.func3
    (ChangeSpec.witness6 (enc := enc) (C := Tryz.checked) false ⟨#[], #[.agg #[.slice none 0 0, .slice none 0 0, .slice none 0 0, .int .i64 0, .int .i64 0, .int .i64 0, .int .i64 0, .slice none 0 0, .slice none 0 0, .slice none 0 0, .slice none 0 0, .slice none 0 0]], []⟩ 12 (by kernel_rfl) (by kernel_rfl) (by kernel_rfl) (by kernel_rfl)) ?_
  intro W base args ds gs before hval hW _ _
  exact contract H enc W base args ds gs before hval hW
theorem over : Rows.fnExactValidDeskRow.holds Tryz.pinned (OpenSpec.ofChange Rows.fnExactValidDeskSpec) :=
  OpenClaim.holds_of_wide 3 Tryz.f3 rfl rfl rfl rfl rfl rfl rfl ⟨rfl, rfl, rfl, rfl, rfl⟩ rfl rfl rfl rfl rfl (by kernel_rfl) Tryz.func3 (by kernel_rfl)
    (of_decide_eq_true (by kernel_rfl)) (by unfold Func.isWrapper; first | (rw [if_pos (by decide +kernel)]; kernel_rfl) | (rw [if_neg (by decide +kernel)]; exact ⟨rfl, rfl⟩))
    (fun os started H enc _ => lifted os started H enc)
/-- The statement. -/
theorem proved : Rows.FnExactValidDeskSaid := over
end Go.Proofs.YtlbibfjmbmbgjaaGreat.fnExactValidDesk
