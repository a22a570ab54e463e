/- The law FnExactPassesAudit answers true for every input, whatever it is, and leaves its arguments as they were. Conditions: none. -/
import Derived.Test.YtnfdkcpnoolmfaaGreatDoorQFnExactPassesAudit
import Derived.Test.YtnfdkcpnoolmfaaGreatDoorRows
import Derived.Test.YtnfdkcpnoolmfaaGreatDoorL5
import Derived.Test.YtnfdkcpnoolmfaaGreatDoorL6
import Derived.Carry
import Derived.Test.YtnfdkcpnoolmfaaGreatDoorShelf
import Derived.Test.YtnfdkcpnoolmfaaGreatDoorCards
import Derived.Test.YtnfdkcpnoolmfaaGreatDoorTie
import Derived.LaidMore
import Derived.Lay
import Derived.SevenTiedAt
import Derived.Stop.Joined
import Derived.WalkKit
import Derived.ProofKit
import Derived.OpenShut
import Derived.JoinedOf
import Derived.Handed
set_option linter.unusedVariables false
set_option maxRecDepth 100000
namespace Go.Proofs.YtnfdkcpnoolmfaaGreatDoor.fnExactPassesAudit
open Go.Ab Go.Ab.P
open Go.ChangeShapes Go.WideShapes Go.ChangeAt Go.RowKit
def phiL : List (Nat × Nat) := [(601, 9), (600, 10), (598, 12), (885, 30), (599, 11), (886, 31), (597, 13), (887, 32), (596, 14), (203, 4), (1029, 70), (892, 44), (607, 17), (893, 45), (606, 18), (121, 20), (894, 46), (605, 19), (895, 47), (604, 21), (896, 48), (603, 22), (199, 6), (1, 38), (946, 82), (945, 83), (716, 57), (889, 33), (719, 58), (890, 34), (891, 35), (11, 107), (12, 108), (13, 84), (804, 60), (846, 59), (462, 36), (537, 37), (993, 85), (994, 86), (834, 61), (722, 39), (1028, 62), (888, 40), (602, 15), (717, 87), (965, 63), (726, 64), (16, 89), (718, 66), (1052, 88), (964, 65), (766, 41), (720, 67), (750, 42), (1046, 109), (947, 90), (721, 68), (723, 69), (765, 43), (767, 16), (351, 5), (23, 104), (1126, 128), (1030, 119), (1031, 120), (897, 110), (898, 100), (608, 91), (899, 111), (21, 112), (609, 92), (610, 93), (22, 118), (24, 106), (461, 113), (83, 94), (541, 95), (534, 96), (623, 121), (1032, 122), (1033, 123), (900, 114), (611, 97), (621, 115), (213, 98), (201, 71), (939, 99), (710, 72), (864, 101), (524, 73), (27, 103), (708, 75), (940, 102), (709, 74), (283, 49), (540, 76), (539, 77), (285, 50), (1045, 117), (941, 105), (711, 78), (622, 80), (210, 79), (282, 51), (286, 23), (284, 7), (1034, 81), (901, 52), (616, 24), (902, 53), (615, 25), (42, 27), (903, 54), (614, 26), (904, 55), (613, 28), (905, 56), (612, 29), (200, 8), (1236, 3)]
def phi (n : Nat) : Nat := (phiL.lookup n).getD 1000000
theorem hm : Tryz.prog.follows .mixedOrders = true := by kernel_rfl
theorem ck_laws_szArcS : chkFn Tryz.prog phi 601 laws_szArcS_ir = true := by kernel_rfl
theorem ok_laws_szArcS : FOk Tryz.prog phi 601 laws_szArcS_c := fn_ok hm (D := laws_szArcS_D) DOk.nil ck_laws_szArcS _ _ _ _
theorem ck_laws_szCordS : chkFn Tryz.prog phi 600 laws_szCordS_ir = true := by kernel_rfl
theorem ok_laws_szCordS : FOk Tryz.prog phi 600 laws_szCordS_c := fn_ok hm (D := laws_szCordS_D) DOk.nil ck_laws_szCordS _ _ _ _
theorem ck_laws_szInt64S : chkFn Tryz.prog phi 598 laws_szInt64S_ir = true := by kernel_rfl
theorem ok_laws_szInt64S : FOk Tryz.prog phi 598 laws_szInt64S_c := fn_ok hm (D := laws_szInt64S_D) DOk.nil ck_laws_szInt64S _ _ _ _
theorem ck_laws_szStep : chkFn Tryz.prog phi 885 laws_szStep_ir = true := by kernel_rfl
theorem ok_laws_szStep : FOk Tryz.prog phi 885 laws_szStep_c := fn_ok hm (D := laws_szStep_D) (DOk.cons ok_laws_szInt64S DOk.nil) ck_laws_szStep _ _ _ _
theorem ck_laws_szStepS : chkFn Tryz.prog phi 599 laws_szStepS_ir = true := by kernel_rfl
theorem ok_laws_szStepS : FOk Tryz.prog phi 599 laws_szStepS_c := fn_ok hm (D := laws_szStepS_D) (DOk.cons ok_laws_szStep DOk.nil) ck_laws_szStepS _ _ _ _
theorem ck_laws_szRental : chkFn Tryz.prog phi 886 laws_szRental_ir = true := by kernel_rfl
theorem ok_laws_szRental : FOk Tryz.prog phi 886 laws_szRental_c := fn_ok hm (D := laws_szRental_D) DOk.nil ck_laws_szRental _ _ _ _
theorem ck_laws_szRentalS : chkFn Tryz.prog phi 597 laws_szRentalS_ir = true := by kernel_rfl
theorem ok_laws_szRentalS : FOk Tryz.prog phi 597 laws_szRentalS_c := fn_ok hm (D := laws_szRentalS_D) (DOk.cons ok_laws_szRental DOk.nil) ck_laws_szRentalS _ _ _ _
theorem ck_laws_szEntry : chkFn Tryz.prog phi 887 laws_szEntry_ir = true := by kernel_rfl
theorem ok_laws_szEntry : FOk Tryz.prog phi 887 laws_szEntry_c := fn_ok hm (D := laws_szEntry_D) DOk.nil ck_laws_szEntry _ _ _ _
theorem ck_laws_szEntryS : chkFn Tryz.prog phi 596 laws_szEntryS_ir = true := by kernel_rfl
theorem ok_laws_szEntryS : FOk Tryz.prog phi 596 laws_szEntryS_c := fn_ok hm (D := laws_szEntryS_D) (DOk.cons ok_laws_szEntry DOk.nil) ck_laws_szEntryS _ _ _ _
theorem ck_laws_szShop : chkFn Tryz.prog phi 203 laws_szShop_ir = true := by kernel_rfl
theorem ok_laws_szShop : FOk Tryz.prog phi 203 laws_szShop_c := fn_ok hm (D := laws_szShop_D) (DOk.cons ok_laws_szEntryS (DOk.cons ok_laws_szRentalS (DOk.cons ok_laws_szInt64S (DOk.cons ok_laws_szStepS (DOk.cons ok_laws_szCordS (DOk.cons ok_laws_szArcS DOk.nil)))))) ck_laws_szShop _ _ _ _
theorem ck_laws_toPoint : chkFn Tryz.prog phi 1029 laws_toPoint_ir = true := by kernel_rfl
theorem ok_laws_toPoint : FOk Tryz.prog phi 1029 laws_toPoint_c := fn_ok hm (D := laws_toPoint_D) DOk.nil ck_laws_toPoint _ _ _ _
theorem ck_laws_toArc : chkFn Tryz.prog phi 892 laws_toArc_ir = true := by kernel_rfl
theorem ok_laws_toArc : FOk Tryz.prog phi 892 laws_toArc_c := fn_ok hm (D := laws_toArc_D) (DOk.cons ok_laws_toPoint DOk.nil) ck_laws_toArc _ _ _ _
theorem ck_laws_toArcS : chkFn Tryz.prog phi 607 laws_toArcS_ir = true := by kernel_rfl
theorem ok_laws_toArcS : FOk Tryz.prog phi 607 laws_toArcS_c := fn_ok hm (D := laws_toArcS_D) (DOk.cons ok_laws_toArc DOk.nil) ck_laws_toArcS _ _ _ _
theorem ck_laws_toCord : chkFn Tryz.prog phi 893 laws_toCord_ir = true := by kernel_rfl
theorem ok_laws_toCord : FOk Tryz.prog phi 893 laws_toCord_c := fn_ok hm (D := laws_toCord_D) DOk.nil ck_laws_toCord _ _ _ _
theorem ck_laws_toCordS : chkFn Tryz.prog phi 606 laws_toCordS_ir = true := by kernel_rfl
theorem ok_laws_toCordS : FOk Tryz.prog phi 606 laws_toCordS_c := fn_ok hm (D := laws_toCordS_D) (DOk.cons ok_laws_toCord DOk.nil) ck_laws_toCordS _ _ _ _
theorem ck_laws_toInt64S : chkFn Tryz.prog phi 121 laws_toInt64S_ir = true := by kernel_rfl
theorem ok_laws_toInt64S : FOk Tryz.prog phi 121 laws_toInt64S_c := fn_ok hm (D := laws_toInt64S_D) DOk.nil ck_laws_toInt64S _ _ _ _
theorem ck_laws_toStep : chkFn Tryz.prog phi 894 laws_toStep_ir = true := by kernel_rfl
theorem ok_laws_toStep : FOk Tryz.prog phi 894 laws_toStep_c := fn_ok hm (D := laws_toStep_D) (DOk.cons ok_laws_toInt64S DOk.nil) ck_laws_toStep _ _ _ _
theorem ck_laws_toStepS : chkFn Tryz.prog phi 605 laws_toStepS_ir = true := by kernel_rfl
theorem ok_laws_toStepS : FOk Tryz.prog phi 605 laws_toStepS_c := fn_ok hm (D := laws_toStepS_D) (DOk.cons ok_laws_toStep DOk.nil) ck_laws_toStepS _ _ _ _
theorem ck_laws_toRental : chkFn Tryz.prog phi 895 laws_toRental_ir = true := by kernel_rfl
theorem ok_laws_toRental : FOk Tryz.prog phi 895 laws_toRental_c := fn_ok hm (D := laws_toRental_D) DOk.nil ck_laws_toRental _ _ _ _
theorem ck_laws_toRentalS : chkFn Tryz.prog phi 604 laws_toRentalS_ir = true := by kernel_rfl
theorem ok_laws_toRentalS : FOk Tryz.prog phi 604 laws_toRentalS_c := fn_ok hm (D := laws_toRentalS_D) (DOk.cons ok_laws_toRental DOk.nil) ck_laws_toRentalS _ _ _ _
theorem ck_laws_toEntry : chkFn Tryz.prog phi 896 laws_toEntry_ir = true := by kernel_rfl
theorem ok_laws_toEntry : FOk Tryz.prog phi 896 laws_toEntry_c := fn_ok hm (D := laws_toEntry_D) DOk.nil ck_laws_toEntry _ _ _ _
theorem ck_laws_toEntryS : chkFn Tryz.prog phi 603 laws_toEntryS_ir = true := by kernel_rfl
theorem ok_laws_toEntryS : FOk Tryz.prog phi 603 laws_toEntryS_c := fn_ok hm (D := laws_toEntryS_D) (DOk.cons ok_laws_toEntry DOk.nil) ck_laws_toEntryS _ _ _ _
theorem ck_laws_toShop : chkFn Tryz.prog phi 199 laws_toShop_ir = true := by kernel_rfl
theorem ok_laws_toShop : FOk Tryz.prog phi 199 laws_toShop_c := fn_ok hm (D := laws_toShop_D) (DOk.cons ok_laws_toInt64S (DOk.cons ok_laws_toEntryS (DOk.cons ok_laws_toRentalS (DOk.cons ok_laws_toStepS (DOk.cons ok_laws_toCordS (DOk.cons ok_laws_toArcS DOk.nil)))))) ck_laws_toShop _ _ _ _
theorem ck_spec_l00In : chkFn Tryz.prog phi 1 spec_l00In_ir = true := by kernel_rfl
theorem ok_spec_l00In : FOk Tryz.prog phi 1 spec_l00In_c := fn_ok hm (D := spec_l00In_D) DOk.nil ck_spec_l00In _ _ _ _
theorem ck_spec_l05Point : chkFn Tryz.prog phi 946 spec_l05Point_ir = true := by kernel_rfl
theorem ok_spec_l05Point : FOk Tryz.prog phi 946 spec_l05Point_c := fn_ok hm (D := spec_l05Point_D) (DOk.cons ok_spec_l00In DOk.nil) ck_spec_l05Point _ _ _ _
theorem ck_spec_l05Square : chkFn Tryz.prog phi 945 spec_l05Square_ir = true := by kernel_rfl
theorem ok_spec_l05Square : FOk Tryz.prog phi 945 spec_l05Square_c := fn_ok hm (D := spec_l05Square_D) DOk.nil ck_spec_l05Square _ _ _ _
theorem ck_spec_l05One : chkFn Tryz.prog phi 716 spec_l05One_ir = true := by kernel_rfl
theorem ok_spec_l05One : FOk Tryz.prog phi 716 spec_l05One_c := fn_ok hm (D := spec_l05One_D) (DOk.cons ok_spec_l05Square (DOk.cons ok_spec_l05Point DOk.nil)) ck_spec_l05One _ _ _ _
theorem ck_spec_l05Ok : chkFn Tryz.prog phi 889 spec_l05Ok_ir = true := by kernel_rfl
theorem ok_spec_l05Ok : FOk Tryz.prog phi 889 spec_l05Ok_c := fn_ok hm (D := spec_l05Ok_D) (DOk.cons ok_spec_l05One DOk.nil) ck_spec_l05Ok _ _ _ _
theorem ck_spec_l09One : chkFn Tryz.prog phi 719 spec_l09One_ir = true := by kernel_rfl
theorem ok_spec_l09One : FOk Tryz.prog phi 719 spec_l09One_c := fn_ok hm (D := spec_l09One_D) (DOk.cons ok_spec_l00In DOk.nil) ck_spec_l09One _ _ _ _
theorem ck_spec_l09List : chkFn Tryz.prog phi 890 spec_l09List_ir = true := by kernel_rfl
theorem ok_spec_l09List : FOk Tryz.prog phi 890 spec_l09List_c := fn_ok hm (D := spec_l09List_D) (DOk.cons ok_spec_l09One DOk.nil) ck_spec_l09List _ _ _ _
theorem ck_spec_l09Share : chkFn Tryz.prog phi 891 spec_l09Share_ir = true := by kernel_rfl
theorem ok_spec_l09Share : FOk Tryz.prog phi 891 spec_l09Share_c := fn_ok hm (D := spec_l09Share_D) (DOk.cons ok_spec_l00In DOk.nil) ck_spec_l09Share _ _ _ _
theorem ck_spec_l01Small : chkFn Tryz.prog phi 11 spec_l01Small_ir = true := by kernel_rfl
theorem ok_spec_l01Small : FOk Tryz.prog phi 11 spec_l01Small_c := fn_ok hm (D := spec_l01Small_D) DOk.nil ck_spec_l01Small _ _ _ _
theorem ck_spec_l01Digit : chkFn Tryz.prog phi 12 spec_l01Digit_ir = true := by kernel_rfl
theorem ok_spec_l01Digit : FOk Tryz.prog phi 12 spec_l01Digit_c := fn_ok hm (D := spec_l01Digit_D) DOk.nil ck_spec_l01Digit _ _ _ _
theorem ck_spec_l01Name : chkFn Tryz.prog phi 13 spec_l01Name_ir = true := by kernel_rfl
theorem ok_spec_l01Name : FOk Tryz.prog phi 13 spec_l01Name_c := fn_ok hm (D := spec_l01Name_D) (DOk.cons ok_spec_l01Small (DOk.cons ok_spec_l01Digit DOk.nil)) ck_spec_l01Name _ _ _ _
theorem ck_spec_l00Rises : chkFn Tryz.prog phi 804 spec_l00Rises_ir = true := by kernel_rfl
theorem ok_spec_l00Rises : FOk Tryz.prog phi 804 spec_l00Rises_c := fn_ok hm (D := spec_l00Rises_D) (DOk.cons ok_spec_l00In DOk.nil) ck_spec_l00Rises _ _ _ _
theorem ck_spec_l17One : chkFn Tryz.prog phi 846 spec_l17One_ir = true := by kernel_rfl
theorem ok_spec_l17One : FOk Tryz.prog phi 846 spec_l17One_c := fn_ok hm (D := spec_l17One_D) (DOk.cons ok_spec_l00In (DOk.cons ok_spec_l01Name (DOk.cons ok_spec_l00Rises DOk.nil))) ck_spec_l17One _ _ _ _
theorem ck_spec_l17Ok : chkFn Tryz.prog phi 462 spec_l17Ok_ir = true := by kernel_rfl
theorem ok_spec_l17Ok : FOk Tryz.prog phi 462 spec_l17Ok_c := fn_ok hm (D := spec_l17Ok_D) (DOk.cons ok_spec_l00Rises (DOk.cons ok_spec_l17One DOk.nil)) ck_spec_l17Ok _ _ _ _
theorem ck_spec_l17Starts : chkFn Tryz.prog phi 537 spec_l17Starts_ir = true := by kernel_rfl
theorem ok_spec_l17Starts : FOk Tryz.prog phi 537 spec_l17Starts_c := fn_ok hm (D := spec_l17Starts_D) (DOk.cons ok_spec_l00In DOk.nil) ck_spec_l17Starts _ _ _ _
theorem ck_spec_l21Day : chkFn Tryz.prog phi 993 spec_l21Day_ir = true := by kernel_rfl
theorem ok_spec_l21Day : FOk Tryz.prog phi 993 spec_l21Day_c := fn_ok hm (D := spec_l21Day_D) (DOk.cons ok_spec_l00In DOk.nil) ck_spec_l21Day _ _ _ _
theorem ck_spec_l21Money : chkFn Tryz.prog phi 994 spec_l21Money_ir = true := by kernel_rfl
theorem ok_spec_l21Money : FOk Tryz.prog phi 994 spec_l21Money_c := fn_ok hm (D := spec_l21Money_D) (DOk.cons ok_spec_l00In DOk.nil) ck_spec_l21Money _ _ _ _
theorem ck_spec_l21One : chkFn Tryz.prog phi 834 spec_l21One_ir = true := by kernel_rfl
theorem ok_spec_l21One : FOk Tryz.prog phi 834 spec_l21One_c := fn_ok hm (D := spec_l21One_D) (DOk.cons ok_spec_l00In (DOk.cons ok_spec_l01Name (DOk.cons ok_spec_l21Day (DOk.cons ok_spec_l21Money DOk.nil)))) ck_spec_l21One _ _ _ _
theorem ck_spec_l21Ok : chkFn Tryz.prog phi 722 spec_l21Ok_ir = true := by kernel_rfl
theorem ok_spec_l21Ok : FOk Tryz.prog phi 722 spec_l21Ok_c := fn_ok hm (D := spec_l21Ok_D) (DOk.cons ok_spec_l21One DOk.nil) ck_spec_l21Ok _ _ _ _
theorem ck_spec_l25One : chkFn Tryz.prog phi 1028 spec_l25One_ir = true := by kernel_rfl
theorem ok_spec_l25One : FOk Tryz.prog phi 1028 spec_l25One_c := fn_ok hm (D := spec_l25One_D) (DOk.cons ok_spec_l00In (DOk.cons ok_spec_l01Name (DOk.cons ok_spec_l21Day DOk.nil))) ck_spec_l25One _ _ _ _
theorem ck_spec_l25Ok : chkFn Tryz.prog phi 888 spec_l25Ok_ir = true := by kernel_rfl
theorem ok_spec_l25Ok : FOk Tryz.prog phi 888 spec_l25Ok_c := fn_ok hm (D := spec_l25Ok_D) (DOk.cons ok_spec_l25One DOk.nil) ck_spec_l25Ok _ _ _ _
theorem ck_spec_l31Ok : chkFn Tryz.prog phi 602 spec_l31Ok_ir = true := by kernel_rfl
theorem ok_spec_l31Ok : FOk Tryz.prog phi 602 spec_l31Ok_c := fn_ok hm (D := spec_l31Ok_D) (DOk.cons ok_spec_l00In (DOk.cons ok_spec_l17Ok (DOk.cons ok_spec_l17Starts (DOk.cons ok_spec_l21Ok (DOk.cons ok_spec_l25Ok (DOk.cons ok_spec_l05Ok (DOk.cons ok_spec_l09List (DOk.cons ok_spec_l09Share DOk.nil)))))))) ck_spec_l31Ok _ _ _ _
theorem ck_spec_l05Smooth : chkFn Tryz.prog phi 717 spec_l05Smooth_ir = true := by kernel_rfl
theorem ok_spec_l05Smooth : FOk Tryz.prog phi 717 spec_l05Smooth_c := fn_ok hm (D := spec_l05Smooth_D) DOk.nil ck_spec_l05Smooth _ _ _ _
theorem ck_spec_l05Corners : chkFn Tryz.prog phi 965 spec_l05Corners_ir = true := by kernel_rfl
theorem ok_spec_l05Corners : FOk Tryz.prog phi 965 spec_l05Corners_c := fn_ok hm (D := spec_l05Corners_D) (DOk.cons ok_spec_l05Smooth DOk.nil) ck_spec_l05Corners _ _ _ _
theorem ck_spec_l01Dec : chkFn Tryz.prog phi 726 spec_l01Dec_ir = true := by kernel_rfl
theorem ok_spec_l01Dec : FOk Tryz.prog phi 726 spec_l01Dec_c := fn_ok hm (D := spec_l01Dec_D) DOk.nil ck_spec_l01Dec _ _ _ _
theorem ck_spec_l01Div : chkFn Tryz.prog phi 16 spec_l01Div_ir = true := by kernel_rfl
theorem ok_spec_l01Div : FOk Tryz.prog phi 16 spec_l01Div_c := fn_ok hm (D := spec_l01Div_D) DOk.nil ck_spec_l01Div _ _ _ _
theorem ck_spec_l09Tension : chkFn Tryz.prog phi 718 spec_l09Tension_ir = true := by kernel_rfl
theorem ok_spec_l09Tension : FOk Tryz.prog phi 718 spec_l09Tension_c := fn_ok hm (D := spec_l09Tension_D) (DOk.cons ok_spec_l01Div DOk.nil) ck_spec_l09Tension _ _ _ _
theorem ck_spec_l09Holds : chkFn Tryz.prog phi 1052 spec_l09Holds_ir = true := by kernel_rfl
theorem ok_spec_l09Holds : FOk Tryz.prog phi 1052 spec_l09Holds_c := fn_ok hm (D := spec_l09Holds_D) (DOk.cons ok_spec_l09Tension DOk.nil) ck_spec_l09Holds _ _ _ _
theorem ck_spec_l09Breaking : chkFn Tryz.prog phi 964 spec_l09Breaking_ir = true := by kernel_rfl
theorem ok_spec_l09Breaking : FOk Tryz.prog phi 964 spec_l09Breaking_c := fn_ok hm (D := spec_l09Breaking_D) (DOk.cons ok_spec_l09Holds DOk.nil) ck_spec_l09Breaking _ _ _ _
theorem ck_spec_l31Body : chkFn Tryz.prog phi 766 spec_l31Body_ir = true := by kernel_rfl
theorem ok_spec_l31Body : FOk Tryz.prog phi 766 spec_l31Body_c := fn_ok hm (D := spec_l31Body_D) (DOk.cons ok_spec_l09Tension (DOk.cons ok_spec_l01Dec (DOk.cons ok_spec_l09Breaking (DOk.cons ok_spec_l05Corners DOk.nil)))) ck_spec_l31Body _ _ _ _
theorem ck_spec_l17Used : chkFn Tryz.prog phi 720 spec_l17Used_ir = true := by kernel_rfl
theorem ok_spec_l17Used : FOk Tryz.prog phi 720 spec_l17Used_c := fn_ok hm (D := spec_l17Used_D) DOk.nil ck_spec_l17Used _ _ _ _
theorem ck_spec_l31Work : chkFn Tryz.prog phi 750 spec_l31Work_ir = true := by kernel_rfl
theorem ok_spec_l31Work : FOk Tryz.prog phi 750 spec_l31Work_c := fn_ok hm (D := spec_l31Work_D) (DOk.cons ok_spec_l17Used (DOk.cons ok_spec_l01Dec DOk.nil)) ck_spec_l31Work _ _ _ _
theorem ck_spec_l21End : chkFn Tryz.prog phi 1046 spec_l21End_ir = true := by kernel_rfl
theorem ok_spec_l21End : FOk Tryz.prog phi 1046 spec_l21End_c := fn_ok hm (D := spec_l21End_D) DOk.nil ck_spec_l21End _ _ _ _
theorem ck_spec_l21Clash : chkFn Tryz.prog phi 947 spec_l21Clash_ir = true := by kernel_rfl
theorem ok_spec_l21Clash : FOk Tryz.prog phi 947 spec_l21Clash_c := fn_ok hm (D := spec_l21Clash_D) (DOk.cons ok_spec_l21End DOk.nil) ck_spec_l21Clash _ _ _ _
theorem ck_spec_l21Clashes : chkFn Tryz.prog phi 721 spec_l21Clashes_ir = true := by kernel_rfl
theorem ok_spec_l21Clashes : FOk Tryz.prog phi 721 spec_l21Clashes_c := fn_ok hm (D := spec_l21Clashes_D) (DOk.cons ok_spec_l21Clash DOk.nil) ck_spec_l21Clashes _ _ _ _
theorem ck_spec_l25Change : chkFn Tryz.prog phi 723 spec_l25Change_ir = true := by kernel_rfl
theorem ok_spec_l25Change : FOk Tryz.prog phi 723 spec_l25Change_c := fn_ok hm (D := spec_l25Change_D) DOk.nil ck_spec_l25Change _ _ _ _
theorem ck_spec_l31Trade : chkFn Tryz.prog phi 765 spec_l31Trade_ir = true := by kernel_rfl
theorem ok_spec_l31Trade : FOk Tryz.prog phi 765 spec_l31Trade_c := fn_ok hm (D := spec_l31Trade_D) (DOk.cons ok_spec_l21Clashes (DOk.cons ok_spec_l25Change (DOk.cons ok_spec_l01Dec DOk.nil))) ck_spec_l31Trade _ _ _ _
theorem ck_spec_l31All : chkFn Tryz.prog phi 767 spec_l31All_ir = true := by kernel_rfl
theorem ok_spec_l31All : FOk Tryz.prog phi 767 spec_l31All_c := fn_ok hm (D := spec_l31All_D) (DOk.cons ok_spec_l31Work (DOk.cons ok_spec_l31Trade (DOk.cons ok_spec_l31Body DOk.nil))) ck_spec_l31All _ _ _ _
theorem ck_spec_PassesAudit : chkFn Tryz.prog phi 351 spec_PassesAudit_ir = true := by kernel_rfl
theorem ok_spec_PassesAudit : FOk Tryz.prog phi 351 spec_PassesAudit_c := fn_ok hm (D := spec_PassesAudit_D) (DOk.cons ok_spec_l31Ok (DOk.cons ok_spec_l31All DOk.nil)) ck_spec_PassesAudit _ _ _ _
theorem ck_impl_within : chkFn Tryz.prog phi 23 impl_within_ir = true := by kernel_rfl
theorem ok_impl_within : FOk Tryz.prog phi 23 impl_within_c := fn_ok hm (D := impl_within_D) DOk.nil ck_impl_within _ _ _ _
theorem ck_impl_isCoord : chkFn Tryz.prog phi 1126 impl_isCoord_ir = true := by kernel_rfl
theorem ok_impl_isCoord : FOk Tryz.prog phi 1126 impl_isCoord_c := fn_ok hm (D := impl_isCoord_D) (DOk.cons ok_impl_within DOk.nil) ck_impl_isCoord _ _ _ _
theorem ck_impl_Point_valid : chkFn Tryz.prog phi 1030 impl_Point_valid_ir = true := by kernel_rfl
theorem ok_impl_Point_valid : FOk Tryz.prog phi 1030 impl_Point_valid_c := fn_ok hm (D := impl_Point_valid_D) (DOk.cons ok_impl_isCoord DOk.nil) ck_impl_Point_valid _ _ _ _
theorem ck_impl_squared : chkFn Tryz.prog phi 1031 impl_squared_ir = true := by kernel_rfl
theorem ok_impl_squared : FOk Tryz.prog phi 1031 impl_squared_c := fn_ok hm (D := impl_squared_D) DOk.nil ck_impl_squared _ _ _ _
theorem ck_impl_ValidArc : chkFn Tryz.prog phi 897 impl_ValidArc_ir = true := by kernel_rfl
theorem ok_impl_ValidArc : FOk Tryz.prog phi 897 impl_ValidArc_c := fn_ok hm (D := impl_ValidArc_D) (DOk.cons ok_impl_Point_valid (DOk.cons ok_impl_squared DOk.nil)) ck_impl_ValidArc _ _ _ _
theorem ck_impl_next : chkFn Tryz.prog phi 898 impl_next_ir = true := by kernel_rfl
theorem ok_impl_next : FOk Tryz.prog phi 898 impl_next_c := fn_ok hm (D := impl_next_D) DOk.nil ck_impl_next _ _ _ _
theorem ck_impl_ValidOutline : chkFn Tryz.prog phi 608 impl_ValidOutline_ir = true := by kernel_rfl
theorem ok_impl_ValidOutline : FOk Tryz.prog phi 608 impl_ValidOutline_c := fn_ok hm (D := impl_ValidOutline_D) (DOk.cons ok_impl_within (DOk.cons ok_impl_ValidArc (DOk.cons ok_impl_next DOk.nil))) ck_impl_ValidOutline _ _ _ _
theorem ck_impl_ValidString : chkFn Tryz.prog phi 899 impl_ValidString_ir = true := by kernel_rfl
theorem ok_impl_ValidString : FOk Tryz.prog phi 899 impl_ValidString_c := fn_ok hm (D := impl_ValidString_D) (DOk.cons ok_impl_within DOk.nil) ck_impl_ValidString _ _ _ _
theorem ck_impl_few : chkFn Tryz.prog phi 21 impl_few_ir = true := by kernel_rfl
theorem ok_impl_few : FOk Tryz.prog phi 21 impl_few_c := fn_ok hm (D := impl_few_D) DOk.nil ck_impl_few _ _ _ _
theorem ck_impl_validCords : chkFn Tryz.prog phi 609 impl_validCords_ir = true := by kernel_rfl
theorem ok_impl_validCords : FOk Tryz.prog phi 609 impl_validCords_c := fn_ok hm (D := impl_validCords_D) (DOk.cons ok_impl_few (DOk.cons ok_impl_ValidString DOk.nil)) ck_impl_validCords _ _ _ _
theorem ck_impl_isShare : chkFn Tryz.prog phi 610 impl_isShare_ir = true := by kernel_rfl
theorem ok_impl_isShare : FOk Tryz.prog phi 610 impl_isShare_c := fn_ok hm (D := impl_isShare_D) (DOk.cons ok_impl_within DOk.nil) ck_impl_isShare _ _ _ _
theorem ck_impl_isDigit : chkFn Tryz.prog phi 22 impl_isDigit_ir = true := by kernel_rfl
theorem ok_impl_isDigit : FOk Tryz.prog phi 22 impl_isDigit_c := fn_ok hm (D := impl_isDigit_D) DOk.nil ck_impl_isDigit _ _ _ _
theorem ck_impl_IsName : chkFn Tryz.prog phi 24 impl_IsName_ir = true := by kernel_rfl
theorem ok_impl_IsName : FOk Tryz.prog phi 24 impl_IsName_c := fn_ok hm (D := impl_IsName_D) (DOk.cons ok_impl_few (DOk.cons ok_impl_isDigit DOk.nil)) ck_impl_IsName _ _ _ _
theorem ck_impl_Step_valid : chkFn Tryz.prog phi 461 impl_Step_valid_ir = true := by kernel_rfl
theorem ok_impl_Step_valid : FOk Tryz.prog phi 461 impl_Step_valid_c := fn_ok hm (D := impl_Step_valid_D) (DOk.cons ok_impl_within (DOk.cons ok_impl_IsName DOk.nil)) ck_impl_Step_valid _ _ _ _
theorem vs_key : Maps.Keyed Tryz.prog 9 := Maps.string_keyed Tryz.underlying9
theorem vs_zero (w : World) : (zeroValue 4).run Tryz.prog w = .ok (.bool false) w := by kernel_rfl
theorem vs_none (a : Option Addr) (cap : Nat) (w : World) (fin : Bool)
    (hF : ∀ w', Lo w.heap.size w w' → Calls Tryz.prog 112 #[.int .i64 0, .int .i64 12] w' fun e w'' => e = .returned (.bool fin) ∧ Lo w'.heap.size w' w'') :
    Calls Tryz.prog 94 #[.slice a 0 cap] w fun e w' => e = .returned (.bool fin) ∧ Lo w.heap.size w w' := by
  have hmm := @run_makeMap Tryz.prog
  go_enter Tryz.func94, Tryz.ntmps94
  go_wp2
  refine wp_loop_rounds 1 ?_
  rw [rounds_succ]
  go_wp2_with (go_at_call 112; refine (hF _ ((Lo.refl _ _).alloc (Nat.le_refl _) _)).mono ?_; rintro e w1 ⟨rfl, hw1⟩)
  go_ret
  exact ⟨rfl, ((Lo.refl _ _).alloc (Nat.le_refl _) _).trans (hw1.mono (by simp))⟩
set_option maxHeartbeats 1600000 in
theorem vs_run (b off len cap : Nat) (w : World) (ids : Nat → List UInt8) (hs cs : Nat → Int) (aa : Nat → Option Addr) (al ac : Nat → Nat) (ok : Nat → Bool) (last : Nat → Int) (fin : Bool)
    (hb : b < w.heap.size) (hl : len ≤ 9223372036854775807)
    (h0 : ∀ j, j < len → w.cell? ⟨b, off + j * 4, none⟩ = some (.string ⟨(ids j).toArray⟩))
    (h1 : ∀ j, j < len → w.cell? ⟨b, off + j * 4 + 1, none⟩ = some (.int .i64 (hs j)))
    (h2 : ∀ j, j < len → w.cell? ⟨b, off + j * 4 + 2, none⟩ = some (.int .i64 (cs j)))
    (h3 : ∀ j, j < len → w.cell? ⟨b, off + j * 4 + 3, none⟩ = some (.slice (aa j) (al j) (ac j)))
    (h4 : ∀ j, j < len → 0 < al j → ∃ c o, aa j = some ⟨c, o, none⟩ ∧ c < w.heap.size ∧ al j ≤ 9223372036854775807 ∧ w.cell? ⟨c, o + (al j - 1), none⟩ = some (.int .i64 (last j)))
    (h5 : ∀ j, j < len → (ids j).length ≤ 9223372036854775807)
    (hV : ∀ j, j < len → ∀ w', Lo w.heap.size w w' → Calls Tryz.prog 113 #[.agg #[.string ⟨(ids j).toArray⟩, .int .i64 (hs j), .int .i64 (cs j), .slice (aa j) (al j) (ac j)]] w' fun e w'' => e = .returned (.bool (ok j)) ∧ Lo w'.heap.size w' w'')
    (hF : ∀ w', Lo w.heap.size w w' → Calls Tryz.prog 112 #[.int .i64 len, .int .i64 12] w' fun e w'' => e = .returned (.bool fin) ∧ Lo w'.heap.size w' w'') :
    Calls Tryz.prog 94 #[.slice (some ⟨b, off, none⟩) len cap] w fun e w' => e = .returned (.bool (vsGo ids al last ok fin len 0)) ∧ Lo w.heap.size w w' := by
  have hmm := @run_makeMap Tryz.prog
  go_enter Tryz.func94, Tryz.ntmps94
  go_wp2
  go_loopw [9] (fun i wr => ∃ k : Nat, k ≤ len ∧ i = .int .i64 k ∧ wr.ownsMap Tryz.prog 9 (Go.plainElem (H := Unit) Tryz.prog 4) w.heap.size k (vsD ids k) ∧
      Lo w.heap.size w wr ∧ w.heap.size + 1 ≤ wr.heap.size ∧ vsGo ids al last ok fin len 0 = vsGo ids al last ok fin (len - k) k)
    (fun i _ => len - (intOf i).toNat)
  case atStart => exact ⟨0, Nat.zero_le _, rfl, World.ownsMap_made _ _ _ _, (Lo.refl _ _).alloc (Nat.le_refl _) _, by simp, rfl⟩
  case round =>
    obtain ⟨k, hk, rfl, hown, hnx, hws, hgo⟩ := hrel
    rcases Nat.lt_or_ge k len with hkl | hkl
    · have HG : Hid (vsGo ids al last ok fin len 0 = if ok k then (if vsSeen ids k k then false else if decide (0 < al k) && decide ((k : Int) ≤ last k) then false else vsGo ids al last ok fin (len - (k + 1)) (k + 1)) else false) := by
        rw [hgo, show len - k = (len - (k + 1)) + 1 from by omega]; rfl
      clear hgo
      have c0 := (hnx.cell (by exact hb)).trans (h0 k hkl)
      have c1 := (hnx.cell (by exact hb)).trans (h1 k hkl)
      have c2 := (hnx.cell (by exact hb)).trans (h2 k hkl)
      have c3 := (hnx.cell (by exact hb)).trans (h3 k hkl)
      have V := hV k hkl
      have hkey : keyOf Tryz.prog 9 (.string ⟨(ids k).toArray⟩) = some (.string (ids k)) := WideMaps.keyOf_string_mk Tryz.underlying9 (show (ids k).length ≤ Go.maxLen from h5 k hkl)
      rcases Nat.eq_zero_or_pos (al k) with ha | ha
      · have A : Hid (al k = 0) := ha
        rw [ha] at c3 V
        clear ha
        go_wp2_with (first
          | (go_at_call 113; refine (V _ (hnx.alloc hnx.size _)).mono ?_; rintro e w1 ⟨rfl, hw1⟩
             have g0 : w1.cell? ⟨wr.heap.size, 0, none⟩ = some (.string ⟨(ids k).toArray⟩) := (hw1.cell (by rw [size_alloc]; exact Nat.lt_succ_self _)).trans (cell_new4 _ _ _ _ _ rfl)
             have g3 : w1.cell? ⟨wr.heap.size, 3, none⟩ = some (.slice (aa k) 0 (ac k)) := (hw1.cell (by rw [size_alloc]; exact Nat.lt_succ_self _)).trans (cell_new4 _ _ _ _ _ rfl))
          | (at_lookup; refine wpList_lookup_own_bool _ rfl _ _ 156 rfl 9 4 vs_key Tryz.underlying156 Tryz.underlying4 (vs_zero _) w.heap.size k _ rfl (ownsMap_below (hown.alloc _) hw1) _ _ rfl hkey _ (vsD_at ids k k) ?_)
          | (at_mapUpdate; refine wpList_mapUpdate_own _ rfl _ _ _ 156 rfl 9 4 vs_key Tryz.underlying156 (Go.plainElem (H := Unit) Tryz.prog 4) w.heap.size k _ rfl (ownsMap_below (hown.alloc _) hw1) (by unfold maxLen; omega) _ _ _ rfl rfl hkey _ [] (plainElem_bool Tryz.underlying4 true) ?_; intro w2 hown2 hgrow2)
          | go_in)
        · go_ret
          exact ⟨by rw [HG.out]; simp [*], (hnx.alloc hnx.size _).trans (hw1.mono (by simp; omega))⟩
        · have A := A.out
          go_roundw
          case rel => exact ⟨k + 1, by omega, by go_num, hown2, ((hnx.alloc hnx.size _).trans (hw1.mono (by simp; omega))).grown hgrow2 (by have := hw1.size; rw [size_alloc] at this; omega) (fun j hj => by cases hj; exact Nat.le_refl _), by have h1 := hw1.size; have h2 := hgrow2.size; simp at h1; omega, by rw [HG.out]; simp [*]⟩
          case measure => simp [intOf]; omega
        · go_ret
          exact ⟨by rw [HG.out]; simp [*], (hnx.alloc hnx.size _).trans (hw1.mono (by simp; omega))⟩
      · obtain ⟨c, o, e, hc, hcap, hcl⟩ := h4 k hkl ha
        have A : Hid (0 < al k) := ha
        obtain ⟨m, hm⟩ : ∃ m, al k = m + 1 := ⟨al k - 1, by omega⟩
        have M : Hid (al k = m + 1) := hm
        rw [hm] at hcap hcl
        rw [hm, e] at c3 V
        rw [Nat.add_sub_cancel] at hcl
        have hw64 : wrap64 (m : Int) = m := by unfold wrap64; omega
        have hcl' := (hnx.cell (by exact hc)).trans hcl
        clear ha hm hcl
        go_wp2_with (first
          | (go_at_call 113; refine (V _ (hnx.alloc hnx.size _)).mono ?_; rintro e w1 ⟨rfl, hw1⟩
             have g0 : w1.cell? ⟨wr.heap.size, 0, none⟩ = some (.string ⟨(ids k).toArray⟩) := (hw1.cell (by rw [size_alloc]; exact Nat.lt_succ_self _)).trans (cell_new4 _ _ _ _ _ rfl)
             have g3 : w1.cell? ⟨wr.heap.size, 3, none⟩ = some (.slice (some ⟨c, o, none⟩) (m + 1) (ac k)) := (hw1.cell (by rw [size_alloc]; exact Nat.lt_succ_self _)).trans (cell_new4 _ _ _ _ _ rfl)
             have gl : w1.cell? ⟨c, o + m, none⟩ = some (.int .i64 (last k)) := (hw1.cell (by have := hnx.size; rw [size_alloc]; show c < _; omega)).trans ((cell_old _ _ _ _ (by have := hnx.size; omega)).trans hcl'))
          | (at_lookup; refine wpList_lookup_own_bool _ rfl _ _ 156 rfl 9 4 vs_key Tryz.underlying156 Tryz.underlying4 (vs_zero _) w.heap.size k _ rfl (ownsMap_below (hown.alloc _) hw1) _ _ rfl hkey _ (vsD_at ids k k) ?_)
          | (at_mapUpdate; refine wpList_mapUpdate_own _ rfl _ _ _ 156 rfl 9 4 vs_key Tryz.underlying156 (Go.plainElem (H := Unit) Tryz.prog 4) w.heap.size k _ rfl (ownsMap_below (hown.alloc _) hw1) (by unfold maxLen; omega) _ _ _ rfl rfl hkey _ [] (plainElem_bool Tryz.underlying4 true) ?_; intro w2 hown2 hgrow2)
          | go_in)
        · go_ret
          exact ⟨by rw [HG.out]; simp [*], (hnx.alloc hnx.size _).trans (hw1.mono (by simp; omega))⟩
        · have A := A.out
          go_ret
          exact ⟨by rw [HG.out]; simp [*], (hnx.alloc hnx.size _).trans (hw1.mono (by simp; omega))⟩
        · have A := A.out
          go_roundw
          case rel => exact ⟨k + 1, by omega, by go_num, hown2, ((hnx.alloc hnx.size _).trans (hw1.mono (by simp; omega))).grown hgrow2 (by have := hw1.size; rw [size_alloc] at this; omega) (fun j hj => by cases hj; exact Nat.le_refl _), by have h1 := hw1.size; have h2 := hgrow2.size; simp at h1; omega, by rw [HG.out]; simp [*]⟩
          case measure => simp [intOf]; omega
        · go_ret
          exact ⟨by rw [HG.out]; simp [*], (hnx.alloc hnx.size _).trans (hw1.mono (by simp; omega))⟩
    · have : k = len := by omega
      subst this
      go_wp2_with (go_at_call 112; refine (hF _ hnx).mono ?_; rintro e w1 ⟨rfl, hw1⟩)
      go_ret
      exact ⟨by rw [hgo, Nat.sub_self]; rfl, hnx.trans (hw1.mono hnx.size)⟩
theorem vs_walk : VsWalk Tryz.prog 94 113 112 := ⟨⟨_, Tryz.func94, by decide +kernel, rfl⟩, vs_none, vs_run⟩
theorem ok_impl_ValidSteps : FOk Tryz.prog phi 83 impl_ValidSteps_c := validSteps_ok (gv := 461) (gf := 21) vs_walk (fun x b h => callOk_one ok_impl_Step_valid h) (fun m n b h => callOk_two ok_impl_few h) (by kernel_rfl)
theorem ck_impl_areStarts : chkFn Tryz.prog phi 541 impl_areStarts_ir = true := by kernel_rfl
theorem ok_impl_areStarts : FOk Tryz.prog phi 541 impl_areStarts_c := fn_ok hm (D := impl_areStarts_D) (DOk.cons ok_impl_within DOk.nil) ck_impl_areStarts _ _ _ _
theorem ck_impl_isClamps : chkFn Tryz.prog phi 534 impl_isClamps_ir = true := by kernel_rfl
theorem ok_impl_isClamps : FOk Tryz.prog phi 534 impl_isClamps_c := fn_ok hm (D := impl_isClamps_D) (DOk.cons ok_impl_within DOk.nil) ck_impl_isClamps _ _ _ _
theorem ck_impl_isRentDay : chkFn Tryz.prog phi 623 impl_isRentDay_ir = true := by kernel_rfl
theorem ok_impl_isRentDay : FOk Tryz.prog phi 623 impl_isRentDay_c := fn_ok hm (D := impl_isRentDay_D) (DOk.cons ok_impl_within DOk.nil) ck_impl_isRentDay _ _ _ _
theorem ck_impl_isMonths : chkFn Tryz.prog phi 1032 impl_isMonths_ir = true := by kernel_rfl
theorem ok_impl_isMonths : FOk Tryz.prog phi 1032 impl_isMonths_c := fn_ok hm (D := impl_isMonths_D) (DOk.cons ok_impl_within DOk.nil) ck_impl_isMonths _ _ _ _
theorem ck_impl_isMoney : chkFn Tryz.prog phi 1033 impl_isMoney_ir = true := by kernel_rfl
theorem ok_impl_isMoney : FOk Tryz.prog phi 1033 impl_isMoney_c := fn_ok hm (D := impl_isMoney_D) (DOk.cons ok_impl_within DOk.nil) ck_impl_isMoney _ _ _ _
theorem ck_impl_Rental_valid : chkFn Tryz.prog phi 900 impl_Rental_valid_ir = true := by kernel_rfl
theorem ok_impl_Rental_valid : FOk Tryz.prog phi 900 impl_Rental_valid_c := fn_ok hm (D := impl_Rental_valid_D) (DOk.cons ok_impl_IsName (DOk.cons ok_impl_isRentDay (DOk.cons ok_impl_isMonths (DOk.cons ok_impl_isMoney DOk.nil)))) ck_impl_Rental_valid _ _ _ _
theorem ck_impl_ValidRentals : chkFn Tryz.prog phi 611 impl_ValidRentals_ir = true := by kernel_rfl
theorem ok_impl_ValidRentals : FOk Tryz.prog phi 611 impl_ValidRentals_c := fn_ok hm (D := impl_ValidRentals_D) (DOk.cons ok_impl_few (DOk.cons ok_impl_Rental_valid DOk.nil)) ck_impl_ValidRentals _ _ _ _
theorem ck_impl_Entry_valid : chkFn Tryz.prog phi 621 impl_Entry_valid_ir = true := by kernel_rfl
theorem ok_impl_Entry_valid : FOk Tryz.prog phi 621 impl_Entry_valid_c := fn_ok hm (D := impl_Entry_valid_D) (DOk.cons ok_impl_within (DOk.cons ok_impl_IsName (DOk.cons ok_impl_isRentDay DOk.nil))) ck_impl_Entry_valid _ _ _ _
theorem ck_impl_ValidBook : chkFn Tryz.prog phi 213 impl_ValidBook_ir = true := by kernel_rfl
theorem ok_impl_ValidBook : FOk Tryz.prog phi 213 impl_ValidBook_c := fn_ok hm (D := impl_ValidBook_D) (DOk.cons ok_impl_few (DOk.cons ok_impl_Entry_valid DOk.nil)) ck_impl_ValidBook _ _ _ _
theorem ck_impl_ValidShop : chkFn Tryz.prog phi 201 impl_ValidShop_ir = true := by kernel_rfl
theorem ok_impl_ValidShop : FOk Tryz.prog phi 201 impl_ValidShop_c := fn_ok hm (D := impl_ValidShop_D) (DOk.cons ok_impl_ValidSteps (DOk.cons ok_impl_ValidBook (DOk.cons ok_impl_isClamps (DOk.cons ok_impl_areStarts (DOk.cons ok_impl_ValidOutline (DOk.cons ok_impl_validCords (DOk.cons ok_impl_isShare (DOk.cons ok_impl_ValidRentals DOk.nil)))))))) ck_impl_ValidShop _ _ _ _
theorem ck_impl_smooth : chkFn Tryz.prog phi 939 impl_smooth_ir = true := by kernel_rfl
theorem ok_impl_smooth : FOk Tryz.prog phi 939 impl_smooth_c := fn_ok hm (D := impl_smooth_D) DOk.nil ck_impl_smooth _ _ _ _
theorem ck_impl_CornersOf : chkFn Tryz.prog phi 710 impl_CornersOf_ir = true := by kernel_rfl
theorem ok_impl_CornersOf : FOk Tryz.prog phi 710 impl_CornersOf_c := fn_ok hm (D := impl_CornersOf_D) (DOk.cons ok_impl_ValidOutline (DOk.cons ok_impl_next (DOk.cons ok_impl_smooth DOk.nil))) ck_impl_CornersOf _ _ _ _
theorem ok_strconv_FormatInt : FOk Tryz.prog phi 864 strconv_FormatInt_c := formatInt_ok Tryz.laysM173 ⟨0, by kernel_rfl⟩ (by kernel_rfl)
theorem ck_impl_Decimal : chkFn Tryz.prog phi 524 impl_Decimal_ir = true := by kernel_rfl
theorem ok_impl_Decimal : FOk Tryz.prog phi 524 impl_Decimal_c := fn_ok hm (D := impl_Decimal_D) (DOk.cons ok_strconv_FormatInt DOk.nil) ck_impl_Decimal _ _ _ _
theorem ck_impl_divRound : chkFn Tryz.prog phi 27 impl_divRound_ir = true := by kernel_rfl
theorem ok_impl_divRound : FOk Tryz.prog phi 27 impl_divRound_c := fn_ok hm (D := impl_divRound_D) DOk.nil ck_impl_divRound _ _ _ _
theorem ck_impl_Cord_tension : chkFn Tryz.prog phi 708 impl_Cord_tension_ir = true := by kernel_rfl
theorem ok_impl_Cord_tension : FOk Tryz.prog phi 708 impl_Cord_tension_c := fn_ok hm (D := impl_Cord_tension_D) (DOk.cons ok_impl_divRound DOk.nil) ck_impl_Cord_tension _ _ _ _
theorem ck_impl_Cord_holds : chkFn Tryz.prog phi 940 impl_Cord_holds_ir = true := by kernel_rfl
theorem ok_impl_Cord_holds : FOk Tryz.prog phi 940 impl_Cord_holds_c := fn_ok hm (D := impl_Cord_holds_D) (DOk.cons ok_impl_Cord_tension DOk.nil) ck_impl_Cord_holds _ _ _ _
theorem ck_impl_BreakingStrings : chkFn Tryz.prog phi 709 impl_BreakingStrings_ir = true := by kernel_rfl
theorem ok_impl_BreakingStrings : FOk Tryz.prog phi 709 impl_BreakingStrings_c := fn_ok hm (D := impl_BreakingStrings_D) (DOk.cons ok_impl_validCords (DOk.cons ok_impl_isShare (DOk.cons ok_impl_Cord_holds DOk.nil))) ck_impl_BreakingStrings _ _ _ _
theorem ck_impl_BodyProblems : chkFn Tryz.prog phi 283 impl_BodyProblems_ir = true := by kernel_rfl
theorem ok_impl_BodyProblems : FOk Tryz.prog phi 283 impl_BodyProblems_c := fn_ok hm (D := impl_BodyProblems_D) (DOk.cons ok_impl_ValidShop (DOk.cons ok_impl_Decimal (DOk.cons ok_impl_Cord_tension (DOk.cons ok_impl_BreakingStrings (DOk.cons ok_impl_CornersOf DOk.nil))))) ck_impl_BodyProblems _ _ _ _
theorem ck_impl_used : chkFn Tryz.prog phi 540 impl_used_ir = true := by kernel_rfl
theorem ok_impl_used : FOk Tryz.prog phi 540 impl_used_c := fn_ok hm (D := impl_used_D) (DOk.cons ok_impl_within DOk.nil) ck_impl_used _ _ _ _
theorem ck_impl_ready : chkFn Tryz.prog phi 539 impl_ready_ir = true := by kernel_rfl
theorem ok_impl_ready : FOk Tryz.prog phi 539 impl_ready_c := fn_ok hm (D := impl_ready_D) DOk.nil ck_impl_ready _ _ _ _
theorem ck_impl_WorkProblems : chkFn Tryz.prog phi 285 impl_WorkProblems_ir = true := by kernel_rfl
theorem ok_impl_WorkProblems : FOk Tryz.prog phi 285 impl_WorkProblems_c := fn_ok hm (D := impl_WorkProblems_D) (DOk.cons ok_impl_ValidShop (DOk.cons ok_impl_Decimal (DOk.cons ok_impl_ready (DOk.cons ok_impl_used DOk.nil)))) ck_impl_WorkProblems _ _ _ _
theorem ck_impl_Rental_end : chkFn Tryz.prog phi 1045 impl_Rental_end_ir = true := by kernel_rfl
theorem ok_impl_Rental_end : FOk Tryz.prog phi 1045 impl_Rental_end_c := fn_ok hm (D := impl_Rental_end_D) DOk.nil ck_impl_Rental_end _ _ _ _
theorem ck_impl_Rental_clashes : chkFn Tryz.prog phi 941 impl_Rental_clashes_ir = true := by kernel_rfl
theorem ok_impl_Rental_clashes : FOk Tryz.prog phi 941 impl_Rental_clashes_c := fn_ok hm (D := impl_Rental_clashes_D) (DOk.cons ok_impl_Rental_end DOk.nil) ck_impl_Rental_clashes _ _ _ _
theorem ck_impl_ClashesOf : chkFn Tryz.prog phi 711 impl_ClashesOf_ir = true := by kernel_rfl
theorem ok_impl_ClashesOf : FOk Tryz.prog phi 711 impl_ClashesOf_c := fn_ok hm (D := impl_ClashesOf_D) (DOk.cons ok_impl_ValidRentals (DOk.cons ok_impl_Rental_clashes DOk.nil)) ck_impl_ClashesOf _ _ _ _
theorem ck_impl_Entry_change : chkFn Tryz.prog phi 622 impl_Entry_change_ir = true := by kernel_rfl
theorem ok_impl_Entry_change : FOk Tryz.prog phi 622 impl_Entry_change_c := fn_ok hm (D := impl_Entry_change_D) DOk.nil ck_impl_Entry_change _ _ _ _
theorem ck_impl_FirstBelow : chkFn Tryz.prog phi 210 impl_FirstBelow_ir = true := by kernel_rfl
theorem ok_impl_FirstBelow : FOk Tryz.prog phi 210 impl_FirstBelow_c := fn_ok hm (D := impl_FirstBelow_D) (DOk.cons ok_impl_IsName (DOk.cons ok_impl_ValidBook (DOk.cons ok_impl_Entry_change DOk.nil))) ck_impl_FirstBelow _ _ _ _
theorem ck_impl_TradeProblems : chkFn Tryz.prog phi 282 impl_TradeProblems_ir = true := by kernel_rfl
theorem ok_impl_TradeProblems : FOk Tryz.prog phi 282 impl_TradeProblems_c := fn_ok hm (D := impl_TradeProblems_D) (DOk.cons ok_impl_ValidShop (DOk.cons ok_impl_FirstBelow (DOk.cons ok_impl_Decimal (DOk.cons ok_impl_Entry_change (DOk.cons ok_impl_ClashesOf DOk.nil))))) ck_impl_TradeProblems _ _ _ _
theorem ck_impl_AuditShop : chkFn Tryz.prog phi 286 impl_AuditShop_ir = true := by kernel_rfl
theorem ok_impl_AuditShop : FOk Tryz.prog phi 286 impl_AuditShop_c := fn_ok hm (D := impl_AuditShop_D) (DOk.cons ok_impl_TradeProblems (DOk.cons ok_impl_BodyProblems (DOk.cons ok_impl_WorkProblems DOk.nil))) ck_impl_AuditShop _ _ _ _
theorem ck_impl_PassesAudit : chkFn Tryz.prog phi 284 impl_PassesAudit_ir = true := by kernel_rfl
theorem ok_impl_PassesAudit : FOk Tryz.prog phi 284 impl_PassesAudit_c := fn_ok hm (D := impl_PassesAudit_D) (DOk.cons ok_impl_AuditShop DOk.nil) ck_impl_PassesAudit _ _ _ _
theorem ck_laws_eqPoint : chkFn Tryz.prog phi 1034 laws_eqPoint_ir = true := by kernel_rfl
theorem ok_laws_eqPoint : FOk Tryz.prog phi 1034 laws_eqPoint_c := fn_ok hm (D := laws_eqPoint_D) DOk.nil ck_laws_eqPoint _ _ _ _
theorem ck_laws_eqArc : chkFn Tryz.prog phi 901 laws_eqArc_ir = true := by kernel_rfl
theorem ok_laws_eqArc : FOk Tryz.prog phi 901 laws_eqArc_c := fn_ok hm (D := laws_eqArc_D) (DOk.cons ok_laws_eqPoint DOk.nil) ck_laws_eqArc _ _ _ _
theorem ck_laws_eqArcS : chkFn Tryz.prog phi 616 laws_eqArcS_ir = true := by kernel_rfl
theorem ok_laws_eqArcS : FOk Tryz.prog phi 616 laws_eqArcS_c := fn_ok hm (D := laws_eqArcS_D) (DOk.cons ok_laws_eqArc DOk.nil) ck_laws_eqArcS _ _ _ _
theorem ck_laws_eqCord : chkFn Tryz.prog phi 902 laws_eqCord_ir = true := by kernel_rfl
theorem ok_laws_eqCord : FOk Tryz.prog phi 902 laws_eqCord_c := fn_ok hm (D := laws_eqCord_D) DOk.nil ck_laws_eqCord _ _ _ _
theorem ck_laws_eqCordS : chkFn Tryz.prog phi 615 laws_eqCordS_ir = true := by kernel_rfl
theorem ok_laws_eqCordS : FOk Tryz.prog phi 615 laws_eqCordS_c := fn_ok hm (D := laws_eqCordS_D) (DOk.cons ok_laws_eqCord DOk.nil) ck_laws_eqCordS _ _ _ _
theorem ck_laws_eqInt64S : chkFn Tryz.prog phi 42 laws_eqInt64S_ir = true := by kernel_rfl
theorem ok_laws_eqInt64S : FOk Tryz.prog phi 42 laws_eqInt64S_c := fn_ok hm (D := laws_eqInt64S_D) DOk.nil ck_laws_eqInt64S _ _ _ _
theorem ck_laws_eqStep : chkFn Tryz.prog phi 903 laws_eqStep_ir = true := by kernel_rfl
theorem ok_laws_eqStep : FOk Tryz.prog phi 903 laws_eqStep_c := fn_ok hm (D := laws_eqStep_D) (DOk.cons ok_laws_eqInt64S DOk.nil) ck_laws_eqStep _ _ _ _
theorem ck_laws_eqStepS : chkFn Tryz.prog phi 614 laws_eqStepS_ir = true := by kernel_rfl
theorem ok_laws_eqStepS : FOk Tryz.prog phi 614 laws_eqStepS_c := fn_ok hm (D := laws_eqStepS_D) (DOk.cons ok_laws_eqStep DOk.nil) ck_laws_eqStepS _ _ _ _
theorem ck_laws_eqRental : chkFn Tryz.prog phi 904 laws_eqRental_ir = true := by kernel_rfl
theorem ok_laws_eqRental : FOk Tryz.prog phi 904 laws_eqRental_c := fn_ok hm (D := laws_eqRental_D) DOk.nil ck_laws_eqRental _ _ _ _
theorem ck_laws_eqRentalS : chkFn Tryz.prog phi 613 laws_eqRentalS_ir = true := by kernel_rfl
theorem ok_laws_eqRentalS : FOk Tryz.prog phi 613 laws_eqRentalS_c := fn_ok hm (D := laws_eqRentalS_D) (DOk.cons ok_laws_eqRental DOk.nil) ck_laws_eqRentalS _ _ _ _
theorem ck_laws_eqEntry : chkFn Tryz.prog phi 905 laws_eqEntry_ir = true := by kernel_rfl
theorem ok_laws_eqEntry : FOk Tryz.prog phi 905 laws_eqEntry_c := fn_ok hm (D := laws_eqEntry_D) DOk.nil ck_laws_eqEntry _ _ _ _
theorem ck_laws_eqEntryS : chkFn Tryz.prog phi 612 laws_eqEntryS_ir = true := by kernel_rfl
theorem ok_laws_eqEntryS : FOk Tryz.prog phi 612 laws_eqEntryS_c := fn_ok hm (D := laws_eqEntryS_D) (DOk.cons ok_laws_eqEntry DOk.nil) ck_laws_eqEntryS _ _ _ _
theorem ck_laws_eqShop : chkFn Tryz.prog phi 200 laws_eqShop_ir = true := by kernel_rfl
theorem ok_laws_eqShop : FOk Tryz.prog phi 200 laws_eqShop_c := fn_ok hm (D := laws_eqShop_D) (DOk.cons ok_laws_eqInt64S (DOk.cons ok_laws_eqEntryS (DOk.cons ok_laws_eqRentalS (DOk.cons ok_laws_eqStepS (DOk.cons ok_laws_eqCordS (DOk.cons ok_laws_eqArcS DOk.nil)))))) ck_laws_eqShop _ _ _ _
theorem ck_laws_FnExactPassesAudit : chkFn Tryz.prog phi 1236 laws_FnExactPassesAudit_ir = true := by kernel_rfl
theorem ok_laws_FnExactPassesAudit : FOk Tryz.prog phi 1236 laws_FnExactPassesAudit_c := fn_ok hm (D := laws_FnExactPassesAudit_D) (DOk.cons ok_laws_toShop (DOk.cons ok_laws_eqShop (DOk.cons ok_laws_szShop (DOk.cons ok_impl_PassesAudit (DOk.cons ok_spec_PassesAudit DOk.nil))))) ck_laws_FnExactPassesAudit _ _ _ _
theorem law : ∀ x, wfU laws_FnExactPassesAudit_c.ps x → ∃ y, laws_FnExactPassesAudit_c.f x = some y ∧ resA laws_FnExactPassesAudit_c y = ([A.bool true], []) := fun x hx => ⟨true, (laws_FnExactPassesAudit_true x.1 hx.1), rfl⟩
theorem own : ownKnob Tryz.prog.godebug = none := by kernel_rfl
theorem laid : laidOutB Tryz.prog = true := by kernel_rfl
theorem reads : ∀ t ∈ Tryz.f3.params.toList, Tryz.prog.readableRec t = true ∧ t < Tryz.prog.types.size := by
  have h : (Tryz.f3.params.toList.all fun t => Tryz.prog.readableRec t && decide (t < Tryz.prog.types.size)) = true := by kernel_rfl
  intro t ht
  have := List.all_eq_true.1 h t ht
  simpa only [Bool.and_eq_true, decide_eq_true_eq] using this
theorem spec_eq (H : Type) : ∀ (ds : List (DataW H)), ds.length = Tryz.f3.params.toList.length → Rows.fnExactPassesAuditSpec.fn H ds = { results := [.lit (.bool true)], args := ds } := by
  intro ds hd
  have hd : ds.length = 1 := hd
  match ds, hd with
  | [d0], _ => rfl
theorem tab (W : World) (hL : laidMetH Tryz.prog Rows.fnExactPassesAuditRow.laid W) : ∀ i, Tryz.prog.globalNamed pow10Name = some i → Lib.TabIs Tryz.prog W pow10Name .u64 Lib.pow10Tab := by
  intro i hi
  have hp : (Rows.fnExactPassesAuditRow.laid.all fun x => x.2.handleName?.isNone) = true := by kernel_rfl
  rw [MakeChecks.laidMetH_plain _ _ _ hp] at hL
  have h1 : laidMet Tryz.prog (("internal/strconv.uint64pow10", Rows.laid_internal_strconv_uint64pow10) :: []) W := (laidMet.tail (laidMet.tail hL))
  have e : (Rows.laid_internal_strconv_uint64pow10 : DataW Unit) = Lib.tabData .u64 Lib.pow10Tab := by kernel_rfl
  rw [e] at h1
  exact Lib.tabIs_of_head (t := 167) (e := 160) (n := 20) hi (by obtain rfl := Option.some.inj ((show Tryz.prog.globalNamed pow10Name = some 0 by kernel_rfl).symm.trans hi); kernel_rfl) (by kernel_rfl) (by kernel_rfl) (by kernel_rfl) (by kernel_rfl) h1
theorem errs (W : World) (hL : laidMetH Tryz.prog Rows.fnExactPassesAuditRow.laid W) : ∀ n, errNames.contains n = true → ∀ i, Tryz.prog.globalNamed n = some i → ∃ u v, W.var? Tryz.prog n = some #[.iface u v] := by
  intro n hn i hi
  have hn : n = "strconv.ErrSyntax" ∨ n = "strconv.ErrRange" := by simpa [errNames] using hn
  rcases hn with rfl | rfl
  · have h : Tryz.prog.globalNamed "strconv.ErrSyntax" = none := by kernel_rfl
    rw [h] at hi; cases hi
  · have h : Tryz.prog.globalNamed "strconv.ErrRange" = none := by kernel_rfl
    rw [h] at hi; cases hi
theorem contract (H : Type) (enc : TypeId × Value → H) (W : World) (base : Nat) (args : Array Value) (ds gs : List (DataW H)) (before : List MemPlace)
    (hval : ∀ (j : Nat) t v, Tryz.f3.params[j]? = some t → args[j]? = some v → Value.okWide Tryz.prog W .any base t v)
    (hW : DataW.Whole enc Tryz.prog Tryz.f3.params.toList Rows.fnExactPassesAuditSpec.vars false W args.toList ds gs before) (hL : laidMetH Tryz.prog Rows.fnExactPassesAuditRow.laid W) (hsh : W.ShapedOpen Tryz.prog) :
    Calls Tryz.prog 3 args W fun e W' => ∃ v, e = .returned v ∧ Rows.fnExactPassesAuditSpec.post enc Tryz.prog Tryz.f3 false true false false W args v W' :=
  row_contract (φ := phi) (g := 1236) (n := 20) ok_laws_FnExactPassesAudit rfl rfl (tb := 4) Tryz.underlying4 (by kernel_rfl) rfl law laid reads spec_eq W base args ds gs before hval hW (Glob.start hsh (tab W hL) (errs W hL))
theorem lifted (os : Os) (started : os.Started) (H : Type) (enc : TypeId × Value → H) :
    ReturnsInHanded {} Tryz.checked os 3 .any (fun w args => (Rows.fnExactPassesAuditSpec.pre enc Tryz.prog Tryz.f3 Rows.fnExactPassesAuditRow.domain false w args ∧ laidMetH Tryz.prog Rows.fnExactPassesAuditRow.laid w) ∧ sizedMet enc Tryz.prog Tryz.f3 (OpenSpec.ofChange Rows.fnExactPassesAuditSpec) false w args) (Rows.fnExactPassesAuditSpec.post enc Tryz.prog Tryz.f3 false true false false) := by
  refine returnsInHanded_laid (C := Tryz.checked) (laid := Rows.fnExactPassesAuditRow.laid) own started (by kernel_rfl) Tryz.func3
    (ChangeSpec.witness_shaped (enc := enc) (C := Tryz.checked) (os := os) (X := fun w _ => laidMetH Tryz.prog Rows.fnExactPassesAuditRow.laid w) false (World.laidAll Tryz.prog os Rows.fnExactPassesAuditRow.laid) #[.agg #[.slice none 0 0, .slice none 0 0, .int .i64 0, .slice none 0 0, .slice none 0 0, .int .i64 0, .slice none 0 0, .slice none 0 0]] 12 (World.laidAll_os _ _ _)
      (World.shaped_of_ZipB (by kernel_rfl) (by kernel_rfl)) (by kernel_rfl) (by kernel_rfl) (by kernel_rfl)
      (by rw [MakeChecks.laidMetH_plain _ _ _ (by kernel_rfl)]; exact laidMet_laidAll _ (by kernel_rfl) (by kernel_rfl))) ?_
  intro W base args ds gs before hval hW hL hsh
  exact contract H enc W base args ds gs before hval hW hL hsh
theorem over : Rows.fnExactPassesAuditRow.holds Tryz.pinned (OpenSpec.ofChange Rows.fnExactPassesAuditSpec) :=
  OpenClaim.holds_of_wide 3 Tryz.f3 rfl rfl rfl rfl rfl rfl rfl ⟨rfl, rfl, rfl, rfl, rfl⟩ rfl rfl rfl rfl rfl (by kernel_rfl) Tryz.func3 (by kernel_rfl)
    (of_decide_eq_true (by kernel_rfl)) (by unfold Func.isWrapper; first | (rw [if_pos (by decide +kernel)]; kernel_rfl) | (rw [if_neg (by decide +kernel)]; exact ⟨rfl, rfl⟩))
    (fun os started H enc _ => lifted os started H enc)
theorem card : Rows.FnExactPassesAuditCardSaid :=
  Claim7.holds_tied_plain_at .later [] [.data, .data, .data] true (true, "80b54eb122600423177c9741e26c08b086604b0f7eaf33c43d6a1ecd2e59ace7") false over (fun _ h => by cases h) (by kernel_rfl) (fun _ h => by cases h) fnExactPassesAudit_row_tie rfl ⟨rfl, rfl⟩ (by kernel_rfl) rfl
    (fun f fn hf hfn => by
      obtain rfl : f = 3 := Option.some.inj ((show Tryz.prog.funcNamed "loop.example/g01061/laws.FnExactPassesAudit" = some 3 by kernel_rfl).symm.trans hf) |>.symm
      obtain rfl : fn = Tryz.f3 := (Option.some.inj (Tryz.func3.symm.trans hfn)).symm
      exact ⟨by kernel_rfl, fun j t ht => by
        have hm : t ∈ Tryz.f3.params.toList := by simpa using Array.mem_of_getElem? ht
        have hall : (Tryz.f3.params.toList.all fun u => !Tryz.prog.wantsStandIn u) = true := by kernel_rfl
        exact (show Tryz.prog.wantsStandIn t = false by simpa using List.all_eq_true.1 hall t hm)⟩)
    (by kernel_rfl)
/-- The statement. -/
theorem proved : Rows.FnExactPassesAuditCardSaid := card
end Go.Proofs.YtnfdkcpnoolmfaaGreatDoor.fnExactPassesAudit
