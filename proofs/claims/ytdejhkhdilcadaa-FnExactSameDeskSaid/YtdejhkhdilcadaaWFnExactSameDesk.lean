/- The law FnExactSameDesk answers true for every input, whatever it is, and leaves its arguments as they were. Conditions: none. -/
import Derived.Test.YtdejhkhdilcadaaQFnExactSameDesk
import Derived.Test.YtdejhkhdilcadaaRows
import Derived.Test.YtdejhkhdilcadaaL5
import Derived.WalkKit
import Derived.ProofKit
import Derived.OpenShut
import Derived.JoinedOf
import Derived.Handed
set_option linter.unusedVariables false
set_option maxRecDepth 100000
namespace Go.Proofs.Ytdejhkhdilcadaa.fnExactSameDesk
open Go.Ab Go.Ab.P
open Go.ChangeShapes Go.WideShapes Go.ChangeAt Go.RowKit
def phiL : List (Nat × Nat) := [(913, 94), (650, 45), (914, 95), (649, 46), (598, 96), (648, 47), (493, 26), (126, 6), (34, 97), (63, 48), (915, 98), (647, 49), (916, 99), (646, 50), (725, 100), (300, 51), (239, 21), (917, 101), (658, 54), (918, 102), (657, 55), (121, 9), (656, 56), (655, 57), (498, 31), (120, 8), (31, 103), (59, 58), (919, 104), (654, 59), (920, 105), (653, 60), (727, 106), (295, 61), (236, 23), (652, 52), (651, 53), (238, 22), (659, 62), (660, 63), (662, 65), (1239, 64), (663, 66), (664, 67), (665, 68), (666, 69), (667, 70), (237, 24), (881, 107), (582, 71), (882, 108), (581, 72), (42, 11), (580, 73), (579, 74), (502, 37), (124, 12), (58, 109), (60, 75), (883, 110), (578, 76), (884, 111), (577, 77), (728, 112), (298, 78), (195, 25), (1241, 5)]
def phi (n : Nat) : Nat := (phiL.lookup n).getD 1000000
theorem hm : Try.prog.follows .mixedOrders = true := by kernel_rfl
theorem ck_laws_szStack : chkFn Try.prog phi 913 laws_szStack_ir = true := by kernel_rfl
theorem ok_laws_szStack : FOk Try.prog phi 913 laws_szStack_c := fn_ok hm (D := laws_szStack_D) DOk.nil ck_laws_szStack _ _ _ _
theorem ck_laws_szStackS : chkFn Try.prog phi 650 laws_szStackS_ir = true := by kernel_rfl
theorem ok_laws_szStackS : FOk Try.prog phi 650 laws_szStackS_c := fn_ok hm (D := laws_szStackS_D) (DOk.cons ok_laws_szStack DOk.nil) ck_laws_szStackS _ _ _ _
theorem ck_laws_szRib : chkFn Try.prog phi 914 laws_szRib_ir = true := by kernel_rfl
theorem ok_laws_szRib : FOk Try.prog phi 914 laws_szRib_c := fn_ok hm (D := laws_szRib_D) DOk.nil ck_laws_szRib _ _ _ _
theorem ck_laws_szRibS : chkFn Try.prog phi 649 laws_szRibS_ir = true := by kernel_rfl
theorem ok_laws_szRibS : FOk Try.prog phi 649 laws_szRibS_c := fn_ok hm (D := laws_szRibS_D) (DOk.cons ok_laws_szRib DOk.nil) ck_laws_szRibS _ _ _ _
theorem ck_laws_szInt64S : chkFn Try.prog phi 598 laws_szInt64S_ir = true := by kernel_rfl
theorem ok_laws_szInt64S : FOk Try.prog phi 598 laws_szInt64S_c := fn_ok hm (D := laws_szInt64S_D) DOk.nil ck_laws_szInt64S _ _ _ _
theorem ck_laws_szInt64SS : chkFn Try.prog phi 648 laws_szInt64SS_ir = true := by kernel_rfl
theorem ok_laws_szInt64SS : FOk Try.prog phi 648 laws_szInt64SS_c := fn_ok hm (D := laws_szInt64SS_D) (DOk.cons ok_laws_szInt64S DOk.nil) ck_laws_szInt64SS _ _ _ _
theorem ck_laws_szPeg : chkFn Try.prog phi 493 laws_szPeg_ir = true := by kernel_rfl
theorem ok_laws_szPeg : FOk Try.prog phi 493 laws_szPeg_c := fn_ok hm (D := laws_szPeg_D) DOk.nil ck_laws_szPeg _ _ _ _
theorem ck_laws_szPegS : chkFn Try.prog phi 126 laws_szPegS_ir = true := by kernel_rfl
theorem ok_laws_szPegS : FOk Try.prog phi 126 laws_szPegS_c := fn_ok hm (D := laws_szPegS_D) (DOk.cons ok_laws_szPeg DOk.nil) ck_laws_szPegS _ _ _ _
theorem ck_laws_szPot : chkFn Try.prog phi 34 laws_szPot_ir = true := by kernel_rfl
theorem ok_laws_szPot : FOk Try.prog phi 34 laws_szPot_c := fn_ok hm (D := laws_szPot_D) DOk.nil ck_laws_szPot _ _ _ _
theorem ck_laws_szPotS : chkFn Try.prog phi 63 laws_szPotS_ir = true := by kernel_rfl
theorem ok_laws_szPotS : FOk Try.prog phi 63 laws_szPotS_c := fn_ok hm (D := laws_szPotS_D) (DOk.cons ok_laws_szPot DOk.nil) ck_laws_szPotS _ _ _ _
theorem ck_laws_szMode : chkFn Try.prog phi 915 laws_szMode_ir = true := by kernel_rfl
theorem ok_laws_szMode : FOk Try.prog phi 915 laws_szMode_c := fn_ok hm (D := laws_szMode_D) DOk.nil ck_laws_szMode _ _ _ _
theorem ck_laws_szModeS : chkFn Try.prog phi 647 laws_szModeS_ir = true := by kernel_rfl
theorem ok_laws_szModeS : FOk Try.prog phi 647 laws_szModeS_c := fn_ok hm (D := laws_szModeS_D) (DOk.cons ok_laws_szMode DOk.nil) ck_laws_szModeS _ _ _ _
theorem ck_laws_szWork : chkFn Try.prog phi 916 laws_szWork_ir = true := by kernel_rfl
theorem ok_laws_szWork : FOk Try.prog phi 916 laws_szWork_c := fn_ok hm (D := laws_szWork_D) DOk.nil ck_laws_szWork _ _ _ _
theorem ck_laws_szWorkS : chkFn Try.prog phi 646 laws_szWorkS_ir = true := by kernel_rfl
theorem ok_laws_szWorkS : FOk Try.prog phi 646 laws_szWorkS_c := fn_ok hm (D := laws_szWorkS_D) (DOk.cons ok_laws_szWork DOk.nil) ck_laws_szWorkS _ _ _ _
theorem ck_laws_szPaper : chkFn Try.prog phi 725 laws_szPaper_ir = true := by kernel_rfl
theorem ok_laws_szPaper : FOk Try.prog phi 725 laws_szPaper_c := fn_ok hm (D := laws_szPaper_D) DOk.nil ck_laws_szPaper _ _ _ _
theorem ck_laws_szPaperS : chkFn Try.prog phi 300 laws_szPaperS_ir = true := by kernel_rfl
theorem ok_laws_szPaperS : FOk Try.prog phi 300 laws_szPaperS_c := fn_ok hm (D := laws_szPaperS_D) (DOk.cons ok_laws_szPaper DOk.nil) ck_laws_szPaperS _ _ _ _
theorem ck_laws_szDesk : chkFn Try.prog phi 239 laws_szDesk_ir = true := by kernel_rfl
theorem ok_laws_szDesk : FOk Try.prog phi 239 laws_szDesk_c := fn_ok hm (D := laws_szDesk_D) (DOk.cons ok_laws_szPotS (DOk.cons ok_laws_szPegS (DOk.cons ok_laws_szPaperS (DOk.cons ok_laws_szWorkS (DOk.cons ok_laws_szModeS (DOk.cons ok_laws_szInt64SS (DOk.cons ok_laws_szRibS (DOk.cons ok_laws_szStackS DOk.nil)))))))) ck_laws_szDesk _ _ _ _
theorem ck_laws_toStack : chkFn Try.prog phi 917 laws_toStack_ir = true := by kernel_rfl
theorem ok_laws_toStack : FOk Try.prog phi 917 laws_toStack_c := fn_ok hm (D := laws_toStack_D) DOk.nil ck_laws_toStack _ _ _ _
theorem ck_laws_toStackS : chkFn Try.prog phi 658 laws_toStackS_ir = true := by kernel_rfl
theorem ok_laws_toStackS : FOk Try.prog phi 658 laws_toStackS_c := fn_ok hm (D := laws_toStackS_D) (DOk.cons ok_laws_toStack DOk.nil) ck_laws_toStackS _ _ _ _
theorem ck_laws_toRib : chkFn Try.prog phi 918 laws_toRib_ir = true := by kernel_rfl
theorem ok_laws_toRib : FOk Try.prog phi 918 laws_toRib_c := fn_ok hm (D := laws_toRib_D) DOk.nil ck_laws_toRib _ _ _ _
theorem ck_laws_toRibS : chkFn Try.prog phi 657 laws_toRibS_ir = true := by kernel_rfl
theorem ok_laws_toRibS : FOk Try.prog phi 657 laws_toRibS_c := fn_ok hm (D := laws_toRibS_D) (DOk.cons ok_laws_toRib DOk.nil) ck_laws_toRibS _ _ _ _
theorem ck_laws_toInt64S : chkFn Try.prog phi 121 laws_toInt64S_ir = true := by kernel_rfl
theorem ok_laws_toInt64S : FOk Try.prog phi 121 laws_toInt64S_c := fn_ok hm (D := laws_toInt64S_D) DOk.nil ck_laws_toInt64S _ _ _ _
theorem ck_laws_toInt64SS : chkFn Try.prog phi 656 laws_toInt64SS_ir = true := by kernel_rfl
theorem ok_laws_toInt64SS : FOk Try.prog phi 656 laws_toInt64SS_c := fn_ok hm (D := laws_toInt64SS_D) (DOk.cons ok_laws_toInt64S DOk.nil) ck_laws_toInt64SS _ _ _ _
theorem ck_laws_toNeck : chkFn Try.prog phi 655 laws_toNeck_ir = true := by kernel_rfl
theorem ok_laws_toNeck : FOk Try.prog phi 655 laws_toNeck_c := fn_ok hm (D := laws_toNeck_D) DOk.nil ck_laws_toNeck _ _ _ _
theorem ck_laws_toPeg : chkFn Try.prog phi 498 laws_toPeg_ir = true := by kernel_rfl
theorem ok_laws_toPeg : FOk Try.prog phi 498 laws_toPeg_c := fn_ok hm (D := laws_toPeg_D) DOk.nil ck_laws_toPeg _ _ _ _
theorem ck_laws_toPegS : chkFn Try.prog phi 120 laws_toPegS_ir = true := by kernel_rfl
theorem ok_laws_toPegS : FOk Try.prog phi 120 laws_toPegS_c := fn_ok hm (D := laws_toPegS_D) (DOk.cons ok_laws_toPeg DOk.nil) ck_laws_toPegS _ _ _ _
theorem ck_laws_toPot : chkFn Try.prog phi 31 laws_toPot_ir = true := by kernel_rfl
theorem ok_laws_toPot : FOk Try.prog phi 31 laws_toPot_c := fn_ok hm (D := laws_toPot_D) DOk.nil ck_laws_toPot _ _ _ _
theorem ck_laws_toPotS : chkFn Try.prog phi 59 laws_toPotS_ir = true := by kernel_rfl
theorem ok_laws_toPotS : FOk Try.prog phi 59 laws_toPotS_c := fn_ok hm (D := laws_toPotS_D) (DOk.cons ok_laws_toPot DOk.nil) ck_laws_toPotS _ _ _ _
theorem ck_laws_toMode : chkFn Try.prog phi 919 laws_toMode_ir = true := by kernel_rfl
theorem ok_laws_toMode : FOk Try.prog phi 919 laws_toMode_c := fn_ok hm (D := laws_toMode_D) DOk.nil ck_laws_toMode _ _ _ _
theorem ck_laws_toModeS : chkFn Try.prog phi 654 laws_toModeS_ir = true := by kernel_rfl
theorem ok_laws_toModeS : FOk Try.prog phi 654 laws_toModeS_c := fn_ok hm (D := laws_toModeS_D) (DOk.cons ok_laws_toMode DOk.nil) ck_laws_toModeS _ _ _ _
theorem ck_laws_toWork : chkFn Try.prog phi 920 laws_toWork_ir = true := by kernel_rfl
theorem ok_laws_toWork : FOk Try.prog phi 920 laws_toWork_c := fn_ok hm (D := laws_toWork_D) DOk.nil ck_laws_toWork _ _ _ _
theorem ck_laws_toWorkS : chkFn Try.prog phi 653 laws_toWorkS_ir = true := by kernel_rfl
theorem ok_laws_toWorkS : FOk Try.prog phi 653 laws_toWorkS_c := fn_ok hm (D := laws_toWorkS_D) (DOk.cons ok_laws_toWork DOk.nil) ck_laws_toWorkS _ _ _ _
theorem ck_laws_toPaper : chkFn Try.prog phi 727 laws_toPaper_ir = true := by kernel_rfl
theorem ok_laws_toPaper : FOk Try.prog phi 727 laws_toPaper_c := fn_ok hm (D := laws_toPaper_D) DOk.nil ck_laws_toPaper _ _ _ _
theorem ck_laws_toPaperS : chkFn Try.prog phi 295 laws_toPaperS_ir = true := by kernel_rfl
theorem ok_laws_toPaperS : FOk Try.prog phi 295 laws_toPaperS_c := fn_ok hm (D := laws_toPaperS_D) (DOk.cons ok_laws_toPaper DOk.nil) ck_laws_toPaperS _ _ _ _
theorem ck_laws_toDesk : chkFn Try.prog phi 236 laws_toDesk_ir = true := by kernel_rfl
theorem ok_laws_toDesk : FOk Try.prog phi 236 laws_toDesk_c := fn_ok hm (D := laws_toDesk_D) (DOk.cons ok_laws_toPotS (DOk.cons ok_laws_toPegS (DOk.cons ok_laws_toPaperS (DOk.cons ok_laws_toWorkS (DOk.cons ok_laws_toModeS (DOk.cons ok_laws_toNeck (DOk.cons ok_laws_toInt64SS (DOk.cons ok_laws_toRibS (DOk.cons ok_laws_toStackS DOk.nil))))))))) ck_laws_toDesk _ _ _ _
theorem ck_spec_l32Lists : chkFn Try.prog phi 652 spec_l32Lists_ir = true := by kernel_rfl
theorem ok_spec_l32Lists : FOk Try.prog phi 652 spec_l32Lists_c := fn_ok hm (D := spec_l32Lists_D) DOk.nil ck_spec_l32Lists _ _ _ _
theorem ck_spec_l00Same : chkFn Try.prog phi 651 spec_l00Same_ir = true := by kernel_rfl
theorem ok_spec_l00Same : FOk Try.prog phi 651 spec_l00Same_c := fn_ok hm (D := spec_l00Same_D) DOk.nil ck_spec_l00Same _ _ _ _
theorem ck_spec_SameDesk : chkFn Try.prog phi 238 spec_SameDesk_ir = true := by kernel_rfl
theorem ok_spec_SameDesk : FOk Try.prog phi 238 spec_SameDesk_c := fn_ok hm (D := spec_SameDesk_D) (DOk.cons ok_spec_l00Same (DOk.cons ok_spec_l32Lists DOk.nil)) ck_spec_SameDesk _ _ _ _
theorem ck_impl_same_impl_Stack_ : chkFn Try.prog phi 659 impl_same_impl_Stack__ir = true := by kernel_rfl
theorem ok_impl_same_impl_Stack_ : FOk Try.prog phi 659 impl_same_impl_Stack__c := fn_ok hm (D := impl_same_impl_Stack__D) DOk.nil ck_impl_same_impl_Stack_ _ _ _ _
theorem ck_impl_same_impl_Rib_ : chkFn Try.prog phi 660 impl_same_impl_Rib__ir = true := by kernel_rfl
theorem ok_impl_same_impl_Rib_ : FOk Try.prog phi 660 impl_same_impl_Rib__c := fn_ok hm (D := impl_same_impl_Rib__D) DOk.nil ck_impl_same_impl_Rib_ _ _ _ _
theorem ck_impl_same_int64_ : chkFn Try.prog phi 662 impl_same_int64__ir = true := by kernel_rfl
theorem ok_impl_same_int64_ : FOk Try.prog phi 662 impl_same_int64__c := fn_ok hm (D := impl_same_int64__D) DOk.nil ck_impl_same_int64_ _ _ _ _
theorem ck_slices_EqualFunc_____int64_____int64___int64___int64__impl_same_int64_ : chkFn Try.prog phi 1239 slices_EqualFunc_____int64_____int64___int64___int64__impl_same_int64__ir = true := by kernel_rfl
theorem ok_slices_EqualFunc_____int64_____int64___int64___int64__impl_same_int64_ : FOk Try.prog phi 1239 slices_EqualFunc_____int64_____int64___int64___int64__impl_same_int64__c := fn_ok hm (D := slices_EqualFunc_____int64_____int64___int64___int64__impl_same_int64__D) (DOk.cons ok_impl_same_int64_ DOk.nil) ck_slices_EqualFunc_____int64_____int64___int64___int64__impl_same_int64_ _ _ _ _
theorem ck_impl_same_impl_Peg_ : chkFn Try.prog phi 663 impl_same_impl_Peg__ir = true := by kernel_rfl
theorem ok_impl_same_impl_Peg_ : FOk Try.prog phi 663 impl_same_impl_Peg__c := fn_ok hm (D := impl_same_impl_Peg__D) DOk.nil ck_impl_same_impl_Peg_ _ _ _ _
theorem ck_impl_same_impl_Pot_ : chkFn Try.prog phi 664 impl_same_impl_Pot__ir = true := by kernel_rfl
theorem ok_impl_same_impl_Pot_ : FOk Try.prog phi 664 impl_same_impl_Pot__c := fn_ok hm (D := impl_same_impl_Pot__D) DOk.nil ck_impl_same_impl_Pot_ _ _ _ _
theorem ck_impl_same_impl_Mode_ : chkFn Try.prog phi 665 impl_same_impl_Mode__ir = true := by kernel_rfl
theorem ok_impl_same_impl_Mode_ : FOk Try.prog phi 665 impl_same_impl_Mode__c := fn_ok hm (D := impl_same_impl_Mode__D) DOk.nil ck_impl_same_impl_Mode_ _ _ _ _
theorem ck_impl_same_impl_Work_ : chkFn Try.prog phi 666 impl_same_impl_Work__ir = true := by kernel_rfl
theorem ok_impl_same_impl_Work_ : FOk Try.prog phi 666 impl_same_impl_Work__c := fn_ok hm (D := impl_same_impl_Work__D) DOk.nil ck_impl_same_impl_Work_ _ _ _ _
theorem ck_impl_same_impl_Paper_ : chkFn Try.prog phi 667 impl_same_impl_Paper__ir = true := by kernel_rfl
theorem ok_impl_same_impl_Paper_ : FOk Try.prog phi 667 impl_same_impl_Paper__c := fn_ok hm (D := impl_same_impl_Paper__D) DOk.nil ck_impl_same_impl_Paper_ _ _ _ _
theorem ck_impl_SameDesk : chkFn Try.prog phi 237 impl_SameDesk_ir = true := by kernel_rfl
theorem ok_impl_SameDesk : FOk Try.prog phi 237 impl_SameDesk_c := fn_ok hm (D := impl_SameDesk_D) (DOk.cons ok_impl_same_impl_Stack_ (DOk.cons ok_impl_same_impl_Rib_ (DOk.cons ok_impl_same_int64_ (DOk.cons ok_impl_same_impl_Peg_ (DOk.cons ok_impl_same_impl_Pot_ (DOk.cons ok_impl_same_impl_Mode_ (DOk.cons ok_impl_same_impl_Work_ (DOk.cons ok_impl_same_impl_Paper_ (DOk.cons ok_slices_EqualFunc_____int64_____int64___int64___int64__impl_same_int64_ DOk.nil))))))))) ck_impl_SameDesk _ _ _ _
theorem ck_laws_eqStack : chkFn Try.prog phi 881 laws_eqStack_ir = true := by kernel_rfl
theorem ok_laws_eqStack : FOk Try.prog phi 881 laws_eqStack_c := fn_ok hm (D := laws_eqStack_D) DOk.nil ck_laws_eqStack _ _ _ _
theorem ck_laws_eqStackS : chkFn Try.prog phi 582 laws_eqStackS_ir = true := by kernel_rfl
theorem ok_laws_eqStackS : FOk Try.prog phi 582 laws_eqStackS_c := fn_ok hm (D := laws_eqStackS_D) (DOk.cons ok_laws_eqStack DOk.nil) ck_laws_eqStackS _ _ _ _
theorem ck_laws_eqRib : chkFn Try.prog phi 882 laws_eqRib_ir = true := by kernel_rfl
theorem ok_laws_eqRib : FOk Try.prog phi 882 laws_eqRib_c := fn_ok hm (D := laws_eqRib_D) DOk.nil ck_laws_eqRib _ _ _ _
theorem ck_laws_eqRibS : chkFn Try.prog phi 581 laws_eqRibS_ir = true := by kernel_rfl
theorem ok_laws_eqRibS : FOk Try.prog phi 581 laws_eqRibS_c := fn_ok hm (D := laws_eqRibS_D) (DOk.cons ok_laws_eqRib DOk.nil) ck_laws_eqRibS _ _ _ _
theorem ck_laws_eqInt64S : chkFn Try.prog phi 42 laws_eqInt64S_ir = true := by kernel_rfl
theorem ok_laws_eqInt64S : FOk Try.prog phi 42 laws_eqInt64S_c := fn_ok hm (D := laws_eqInt64S_D) DOk.nil ck_laws_eqInt64S _ _ _ _
theorem ck_laws_eqInt64SS : chkFn Try.prog phi 580 laws_eqInt64SS_ir = true := by kernel_rfl
theorem ok_laws_eqInt64SS : FOk Try.prog phi 580 laws_eqInt64SS_c := fn_ok hm (D := laws_eqInt64SS_D) (DOk.cons ok_laws_eqInt64S DOk.nil) ck_laws_eqInt64SS _ _ _ _
theorem ck_laws_eqNeck : chkFn Try.prog phi 579 laws_eqNeck_ir = true := by kernel_rfl
theorem ok_laws_eqNeck : FOk Try.prog phi 579 laws_eqNeck_c := fn_ok hm (D := laws_eqNeck_D) DOk.nil ck_laws_eqNeck _ _ _ _
theorem ck_laws_eqPeg : chkFn Try.prog phi 502 laws_eqPeg_ir = true := by kernel_rfl
theorem ok_laws_eqPeg : FOk Try.prog phi 502 laws_eqPeg_c := fn_ok hm (D := laws_eqPeg_D) DOk.nil ck_laws_eqPeg _ _ _ _
theorem ck_laws_eqPegS : chkFn Try.prog phi 124 laws_eqPegS_ir = true := by kernel_rfl
theorem ok_laws_eqPegS : FOk Try.prog phi 124 laws_eqPegS_c := fn_ok hm (D := laws_eqPegS_D) (DOk.cons ok_laws_eqPeg DOk.nil) ck_laws_eqPegS _ _ _ _
theorem ck_laws_eqPot : chkFn Try.prog phi 58 laws_eqPot_ir = true := by kernel_rfl
theorem ok_laws_eqPot : FOk Try.prog phi 58 laws_eqPot_c := fn_ok hm (D := laws_eqPot_D) DOk.nil ck_laws_eqPot _ _ _ _
theorem ck_laws_eqPotS : chkFn Try.prog phi 60 laws_eqPotS_ir = true := by kernel_rfl
theorem ok_laws_eqPotS : FOk Try.prog phi 60 laws_eqPotS_c := fn_ok hm (D := laws_eqPotS_D) (DOk.cons ok_laws_eqPot DOk.nil) ck_laws_eqPotS _ _ _ _
theorem ck_laws_eqMode : chkFn Try.prog phi 883 laws_eqMode_ir = true := by kernel_rfl
theorem ok_laws_eqMode : FOk Try.prog phi 883 laws_eqMode_c := fn_ok hm (D := laws_eqMode_D) DOk.nil ck_laws_eqMode _ _ _ _
theorem ck_laws_eqModeS : chkFn Try.prog phi 578 laws_eqModeS_ir = true := by kernel_rfl
theorem ok_laws_eqModeS : FOk Try.prog phi 578 laws_eqModeS_c := fn_ok hm (D := laws_eqModeS_D) (DOk.cons ok_laws_eqMode DOk.nil) ck_laws_eqModeS _ _ _ _
theorem ck_laws_eqWork : chkFn Try.prog phi 884 laws_eqWork_ir = true := by kernel_rfl
theorem ok_laws_eqWork : FOk Try.prog phi 884 laws_eqWork_c := fn_ok hm (D := laws_eqWork_D) DOk.nil ck_laws_eqWork _ _ _ _
theorem ck_laws_eqWorkS : chkFn Try.prog phi 577 laws_eqWorkS_ir = true := by kernel_rfl
theorem ok_laws_eqWorkS : FOk Try.prog phi 577 laws_eqWorkS_c := fn_ok hm (D := laws_eqWorkS_D) (DOk.cons ok_laws_eqWork DOk.nil) ck_laws_eqWorkS _ _ _ _
theorem ck_laws_eqPaper : chkFn Try.prog phi 728 laws_eqPaper_ir = true := by kernel_rfl
theorem ok_laws_eqPaper : FOk Try.prog phi 728 laws_eqPaper_c := fn_ok hm (D := laws_eqPaper_D) DOk.nil ck_laws_eqPaper _ _ _ _
theorem ck_laws_eqPaperS : chkFn Try.prog phi 298 laws_eqPaperS_ir = true := by kernel_rfl
theorem ok_laws_eqPaperS : FOk Try.prog phi 298 laws_eqPaperS_c := fn_ok hm (D := laws_eqPaperS_D) (DOk.cons ok_laws_eqPaper DOk.nil) ck_laws_eqPaperS _ _ _ _
theorem ck_laws_eqDesk : chkFn Try.prog phi 195 laws_eqDesk_ir = true := by kernel_rfl
theorem ok_laws_eqDesk : FOk Try.prog phi 195 laws_eqDesk_c := fn_ok hm (D := laws_eqDesk_D) (DOk.cons ok_laws_eqPotS (DOk.cons ok_laws_eqPegS (DOk.cons ok_laws_eqPaperS (DOk.cons ok_laws_eqWorkS (DOk.cons ok_laws_eqModeS (DOk.cons ok_laws_eqNeck (DOk.cons ok_laws_eqInt64SS (DOk.cons ok_laws_eqRibS (DOk.cons ok_laws_eqStackS DOk.nil))))))))) ck_laws_eqDesk _ _ _ _
theorem ck_laws_FnExactSameDesk : chkFn Try.prog phi 1241 laws_FnExactSameDesk_ir = true := by kernel_rfl
theorem ok_laws_FnExactSameDesk : FOk Try.prog phi 1241 laws_FnExactSameDesk_c := fn_ok hm (D := laws_FnExactSameDesk_D) (DOk.cons ok_laws_eqDesk (DOk.cons ok_laws_toDesk (DOk.cons ok_impl_SameDesk (DOk.cons ok_spec_SameDesk (DOk.cons ok_laws_szDesk DOk.nil))))) ck_laws_FnExactSameDesk _ _ _ _
theorem law : ∀ x, wfU laws_FnExactSameDesk_c.ps x → ∃ y, laws_FnExactSameDesk_c.f x = some y ∧ resA laws_FnExactSameDesk_c y = ([A.bool true], []) := fun x hx => ⟨true, (laws_FnExactSameDesk_true x.1 x.2.1 hx.1 hx.2.1), rfl⟩
theorem own : ownKnob Try.prog.godebug = none := by kernel_rfl
theorem laid : laidOutB Try.prog = true := by kernel_rfl
theorem reads : ∀ t ∈ Try.f5.params.toList, Try.prog.readableRec t = true ∧ t < Try.prog.types.size := by
  have h : (Try.f5.params.toList.all fun t => Try.prog.readableRec t && decide (t < Try.prog.types.size)) = true := by kernel_rfl
  intro t ht
  have := List.all_eq_true.1 h t ht
  simpa only [Bool.and_eq_true, decide_eq_true_eq] using this
theorem spec_eq (H : Type) : ∀ (ds : List (DataW H)), ds.length = Try.f5.params.toList.length → Rows.fnExactSameDeskSpec.fn H ds = { results := [.lit (.bool true)], args := ds } := by
  intro ds hd
  have hd : ds.length = 2 := hd
  match ds, hd with
  | [d0, d1], _ => rfl
theorem tab (W : World) : ∀ i, Try.prog.globalNamed pow10Name = some i → Lib.TabIs Try.prog W pow10Name .u64 Lib.pow10Tab := by
  intro i hi
  have h : Try.prog.globalNamed pow10Name = none := by kernel_rfl
  rw [h] at hi; cases hi
theorem errs (W : World) : ∀ n, errNames.contains n = true → ∀ i, Try.prog.globalNamed n = some i → ∃ u v, W.var? Try.prog n = some #[.iface u v] := by
  intro n hn i hi
  have hn : n = "strconv.ErrSyntax" ∨ n = "strconv.ErrRange" := by simpa [errNames] using hn
  rcases hn with rfl | rfl
  · have h : Try.prog.globalNamed "strconv.ErrSyntax" = none := by kernel_rfl
    rw [h] at hi; cases hi
  · have h : Try.prog.globalNamed "strconv.ErrRange" = none := by kernel_rfl
    rw [h] at hi; cases hi
theorem contract (H : Type) (enc : TypeId × Value → H) (W : World) (base : Nat) (args : Array Value) (ds gs : List (DataW H)) (before : List MemPlace)
    (hval : ∀ (j : Nat) t v, Try.f5.params[j]? = some t → args[j]? = some v → Value.okWide Try.prog W .any base t v)
    (hW : DataW.Whole enc Try.prog Try.f5.params.toList Rows.fnExactSameDeskSpec.vars false W args.toList ds gs before) (hsh : W.ShapedOpen Try.prog) :
    Calls Try.prog 5 args W fun e W' => ∃ v, e = .returned v ∧ Rows.fnExactSameDeskSpec.post enc Try.prog Try.f5 false true false false W args v W' :=
  row_contract (φ := phi) (g := 1241) (n := 20) ok_laws_FnExactSameDesk rfl rfl (tb := 4) Try.underlying4 (by kernel_rfl) rfl law laid reads spec_eq W base args ds gs before hval hW (Glob.start hsh (tab W) (errs W))
theorem lifted (os : Os) (started : os.Started) (H : Type) (enc : TypeId × Value → H) :
    ReturnsInHanded {} Try.checked os 5 .any (Rows.fnExactSameDeskSpec.pre6 enc Try.prog Try.f5 Rows.fnExactSameDeskRow.domain false) (Rows.fnExactSameDeskSpec.post enc Try.prog Try.f5 false true false false) := by
  refine returnsInHanded_of_change_shaped (C := Try.checked) own started (by kernel_rfl) Try.func5
    (ChangeSpec.witness6 (enc := enc) (C := Try.checked) false ⟨#[], #[.agg #[.slice none 0 0, .slice none 0 0, .slice none 0 0, .int .i64 0, .int .i64 0, .int .i64 0, .int .i64 0, .slice none 0 0, .slice none 0 0, .slice none 0 0, .slice none 0 0, .slice none 0 0], .agg #[.slice none 0 0, .slice none 0 0, .slice none 0 0, .int .i64 0, .int .i64 0, .int .i64 0, .int .i64 0, .slice none 0 0, .slice none 0 0, .slice none 0 0, .slice none 0 0, .slice none 0 0]], []⟩ 12 (by kernel_rfl) (by kernel_rfl) (by kernel_rfl) (by kernel_rfl)) ?_
  intro W base args ds gs before hval hW _ _ hsh _
  exact contract H enc W base args ds gs before hval hW hsh
theorem over : Rows.fnExactSameDeskRow.holds Try.pinned (OpenSpec.ofChange Rows.fnExactSameDeskSpec) :=
  OpenClaim.holds_of_wide 5 Try.f5 rfl rfl rfl rfl rfl rfl rfl ⟨rfl, rfl, rfl, rfl, rfl⟩ rfl rfl rfl rfl rfl (by kernel_rfl) Try.func5 (by kernel_rfl)
    (of_decide_eq_true (by kernel_rfl)) (by unfold Func.isWrapper; first | (rw [if_pos (by decide +kernel)]; kernel_rfl) | (rw [if_neg (by decide +kernel)]; exact ⟨rfl, rfl⟩))
    (fun os started H enc _ => lifted os started H enc)
/-- The statement. -/
theorem proved : Rows.FnExactSameDeskSaid := over
end Go.Proofs.Ytdejhkhdilcadaa.fnExactSameDesk
