/- The law FnExactDeskReport answers true for every input, whatever it is, and leaves its arguments as they were. Conditions: none. -/
import Derived.Test.YtihgbmhhcalejaaGreatDoorQFnExactDeskReport
import Derived.Test.YtihgbmhhcalejaaGreatDoorRows
import Derived.Test.YtihgbmhhcalejaaGreatDoorL5
import Derived.Test.YtihgbmhhcalejaaGreatDoorL6
import Derived.Carry
import Derived.Test.YtihgbmhhcalejaaGreatDoorLB
import Derived.Deep.RegionHeld3
import Derived.Test.YtihgbmhhcalejaaGreatDoorShelf
import Derived.Test.YtihgbmhhcalejaaGreatDoorCards
import Derived.Test.YtihgbmhhcalejaaGreatDoorTie
import Derived.LaidMore
import Derived.Lay
import Derived.SevenTiedAt
import Derived.Stop.Joined
import Derived.WalkKit
import Derived.ProofKit
import Derived.OpenShut
import Derived.JoinedOf
import Derived.Handed
set_option linter.unusedVariables false
set_option maxRecDepth 100000
namespace Go.Proofs.YtihgbmhhcalejaaGreatDoor.fnExactDeskReport
open Go.Ab Go.Ab.P
open Go.ChangeShapes Go.WideShapes Go.ChangeAt Go.RowKit
def phiL : List (Nat × Nat) := [(913,53),(650,13),(914,54),(649,14),(598,55),(648,15),(493,56),(126,16),(34,57),(63,17),(915,58),(647,18),(916,59),(646,19),(725,60),(300,20),(239,4),(11,143),(12,144),(13,118),(1,101),(490,119),(850,120),(851,121),(492,97),(942,61),(962,122),(764,98),(943,62),(968,99),(777,63),(844,100),(451,64),(495,123),(800,102),(497,65),(14,124),(15,125),(20,103),(53,66),(1012,126),(848,104),(474,67),(1054,127),(1055,128),(976,105),(790,68),(645,129),(912,106),(640,69),(712,21),(726,22),(397,5),(22,145),(21,108),(24,130),(23,111),(483,131),(682,132),(485,107),(713,78),(762,109),(509,79),(944,110),(714,80),(444,81),(500,133),(796,112),(468,82),(25,134),(26,135),(30,113),(57,83),(545,136),(551,114),(472,84),(977,137),(978,138),(791,115),(715,85),(809,116),(635,86),(288,32),(864,87),(524,34),(810,33),(396,7),(137,8),(881,88),(582,35),(882,89),(581,36),(42,90),(580,37),(579,38),(502,91),(124,39),(58,92),(60,40),(883,93),(578,41),(884,94),(577,42),(728,95),(298,43),(195,9),(655,26),(917,70),(658,23),(918,71),(657,24),(498,73),(120,27),(31,74),(59,28),(919,75),(654,29),(920,76),(653,30),(727,77),(295,31),(121,72),(40,52),(587,44),(586,45),(123,47),(323,48),(584,49),(583,50),(297,51),(45,96),(139,11),(136,12),(1262,3)]
def phi (n : Nat) : Nat := (phiL.lookup n).getD 1000000
theorem hm : Tryz.prog.follows .mixedOrders = true := by kernel_rfl
theorem ok_laws_szStack : FOk Tryz.prog phi 913 laws_szStack_c := fn_ok hm (D := laws_szStack_D) DOk.nil (by kernel_rfl) _ _ _ _
theorem ok_laws_szStackS : FOk Tryz.prog phi 650 laws_szStackS_c := fn_ok hm (D := laws_szStackS_D) (DOk.cons ok_laws_szStack DOk.nil) (by kernel_rfl) _ _ _ _
theorem ok_laws_szRib : FOk Tryz.prog phi 914 laws_szRib_c := fn_ok hm (D := laws_szRib_D) DOk.nil (by kernel_rfl) _ _ _ _
theorem ok_laws_szRibS : FOk Tryz.prog phi 649 laws_szRibS_c := fn_ok hm (D := laws_szRibS_D) (DOk.cons ok_laws_szRib DOk.nil) (by kernel_rfl) _ _ _ _
theorem ok_laws_szInt64S : FOk Tryz.prog phi 598 laws_szInt64S_c := fn_ok hm (D := laws_szInt64S_D) DOk.nil (by kernel_rfl) _ _ _ _
theorem ok_laws_szInt64SS : FOk Tryz.prog phi 648 laws_szInt64SS_c := fn_ok hm (D := laws_szInt64SS_D) (DOk.cons ok_laws_szInt64S DOk.nil) (by kernel_rfl) _ _ _ _
theorem ok_laws_szPeg : FOk Tryz.prog phi 493 laws_szPeg_c := fn_ok hm (D := laws_szPeg_D) DOk.nil (by kernel_rfl) _ _ _ _
theorem ok_laws_szPegS : FOk Tryz.prog phi 126 laws_szPegS_c := fn_ok hm (D := laws_szPegS_D) (DOk.cons ok_laws_szPeg DOk.nil) (by kernel_rfl) _ _ _ _
theorem ok_laws_szPot : FOk Tryz.prog phi 34 laws_szPot_c := fn_ok hm (D := laws_szPot_D) DOk.nil (by kernel_rfl) _ _ _ _
theorem ok_laws_szPotS : FOk Tryz.prog phi 63 laws_szPotS_c := fn_ok hm (D := laws_szPotS_D) (DOk.cons ok_laws_szPot DOk.nil) (by kernel_rfl) _ _ _ _
theorem ok_laws_szMode : FOk Tryz.prog phi 915 laws_szMode_c := fn_ok hm (D := laws_szMode_D) DOk.nil (by kernel_rfl) _ _ _ _
theorem ok_laws_szModeS : FOk Tryz.prog phi 647 laws_szModeS_c := fn_ok hm (D := laws_szModeS_D) (DOk.cons ok_laws_szMode DOk.nil) (by kernel_rfl) _ _ _ _
theorem ok_laws_szWork : FOk Tryz.prog phi 916 laws_szWork_c := fn_ok hm (D := laws_szWork_D) DOk.nil (by kernel_rfl) _ _ _ _
theorem ok_laws_szWorkS : FOk Tryz.prog phi 646 laws_szWorkS_c := fn_ok hm (D := laws_szWorkS_D) (DOk.cons ok_laws_szWork DOk.nil) (by kernel_rfl) _ _ _ _
theorem ok_laws_szPaper : FOk Tryz.prog phi 725 laws_szPaper_c := fn_ok hm (D := laws_szPaper_D) DOk.nil (by kernel_rfl) _ _ _ _
theorem ok_laws_szPaperS : FOk Tryz.prog phi 300 laws_szPaperS_c := fn_ok hm (D := laws_szPaperS_D) (DOk.cons ok_laws_szPaper DOk.nil) (by kernel_rfl) _ _ _ _
theorem ok_laws_szDesk : FOk Tryz.prog phi 239 laws_szDesk_c := fn_ok hm (D := laws_szDesk_D) (DOk.cons ok_laws_szPotS (DOk.cons ok_laws_szPegS (DOk.cons ok_laws_szPaperS (DOk.cons ok_laws_szWorkS (DOk.cons ok_laws_szModeS (DOk.cons ok_laws_szInt64SS (DOk.cons ok_laws_szRibS (DOk.cons ok_laws_szStackS DOk.nil)))))))) (by kernel_rfl) _ _ _ _
theorem ok_spec_l01Small : FOk Tryz.prog phi 11 spec_l01Small_c := fn_ok hm (D := spec_l01Small_D) DOk.nil (by kernel_rfl) _ _ _ _
theorem ok_spec_l01Digit : FOk Tryz.prog phi 12 spec_l01Digit_c := fn_ok hm (D := spec_l01Digit_D) DOk.nil (by kernel_rfl) _ _ _ _
theorem ok_spec_l01Name : FOk Tryz.prog phi 13 spec_l01Name_c := fn_ok hm (D := spec_l01Name_D) (DOk.cons ok_spec_l01Small (DOk.cons ok_spec_l01Digit DOk.nil)) (by kernel_rfl) _ _ _ _
theorem ok_spec_l00In : FOk Tryz.prog phi 1 spec_l00In_c := fn_ok hm (D := spec_l00In_D) DOk.nil (by kernel_rfl) _ _ _ _
theorem ok_spec_l04Share : FOk Tryz.prog phi 490 spec_l04Share_c := fn_ok hm (D := spec_l04Share_D) (DOk.cons ok_spec_l00In DOk.nil) (by kernel_rfl) _ _ _ _
theorem ok_spec_l04Thick : FOk Tryz.prog phi 850 spec_l04Thick_c := fn_ok hm (D := spec_l04Thick_D) (DOk.cons ok_spec_l00In DOk.nil) (by kernel_rfl) _ _ _ _
theorem ok_spec_l02Day : FOk Tryz.prog phi 851 spec_l02Day_c := fn_ok hm (D := spec_l02Day_D) (DOk.cons ok_spec_l00In DOk.nil) (by kernel_rfl) _ _ _ _
theorem ok_spec_l04One : FOk Tryz.prog phi 492 spec_l04One_c := fn_ok hm (D := spec_l04One_D) (DOk.cons ok_spec_l01Name (DOk.cons ok_spec_l04Share (DOk.cons ok_spec_l04Thick (DOk.cons ok_spec_l02Day DOk.nil)))) (by kernel_rfl) _ _ _ _
theorem ok_spec_l04Ok : FOk Tryz.prog phi 942 spec_l04Ok_c := fn_ok hm (D := spec_l04Ok_D) (DOk.cons ok_spec_l04One DOk.nil) (by kernel_rfl) _ _ _ _
theorem ok_spec_l06Size : FOk Tryz.prog phi 962 spec_l06Size_c := fn_ok hm (D := spec_l06Size_D) (DOk.cons ok_spec_l00In DOk.nil) (by kernel_rfl) _ _ _ _
theorem ok_spec_l06One : FOk Tryz.prog phi 764 spec_l06One_c := fn_ok hm (D := spec_l06One_D) (DOk.cons ok_spec_l01Name (DOk.cons ok_spec_l06Size DOk.nil)) (by kernel_rfl) _ _ _ _
theorem ok_spec_l06Ok : FOk Tryz.prog phi 943 spec_l06Ok_c := fn_ok hm (D := spec_l06Ok_D) (DOk.cons ok_spec_l06One DOk.nil) (by kernel_rfl) _ _ _ _
theorem ok_spec_l08Thick : FOk Tryz.prog phi 968 spec_l08Thick_c := fn_ok hm (D := spec_l08Thick_D) (DOk.cons ok_spec_l00In DOk.nil) (by kernel_rfl) _ _ _ _
theorem ok_spec_l08Ok : FOk Tryz.prog phi 777 spec_l08Ok_c := fn_ok hm (D := spec_l08Ok_D) (DOk.cons ok_spec_l08Thick DOk.nil) (by kernel_rfl) _ _ _ _
theorem ok_spec_l10Size : FOk Tryz.prog phi 844 spec_l10Size_c := fn_ok hm (D := spec_l10Size_D) (DOk.cons ok_spec_l00In DOk.nil) (by kernel_rfl) _ _ _ _
theorem ok_spec_l10Ok : FOk Tryz.prog phi 451 spec_l10Ok_c := fn_ok hm (D := spec_l10Ok_D) (DOk.cons ok_spec_l00In (DOk.cons ok_spec_l10Size DOk.nil)) (by kernel_rfl) _ _ _ _
theorem ok_spec_l12Hole : FOk Tryz.prog phi 495 spec_l12Hole_c := fn_ok hm (D := spec_l12Hole_D) (DOk.cons ok_spec_l00In DOk.nil) (by kernel_rfl) _ _ _ _
theorem ok_spec_l12One : FOk Tryz.prog phi 800 spec_l12One_c := fn_ok hm (D := spec_l12One_D) (DOk.cons ok_spec_l00In (DOk.cons ok_spec_l01Name (DOk.cons ok_spec_l12Hole DOk.nil))) (by kernel_rfl) _ _ _ _
theorem ok_spec_l12Ok : FOk Tryz.prog phi 497 spec_l12Ok_c := fn_ok hm (D := spec_l12Ok_D) (DOk.cons ok_spec_l12One DOk.nil) (by kernel_rfl) _ _ _ _
theorem ok_spec_l14Grams : FOk Tryz.prog phi 14 spec_l14Grams_c := fn_ok hm (D := spec_l14Grams_D) (DOk.cons ok_spec_l00In DOk.nil) (by kernel_rfl) _ _ _ _
theorem ok_spec_l14Heat : FOk Tryz.prog phi 15 spec_l14Heat_c := fn_ok hm (D := spec_l14Heat_D) (DOk.cons ok_spec_l00In DOk.nil) (by kernel_rfl) _ _ _ _
theorem ok_spec_l14One : FOk Tryz.prog phi 20 spec_l14One_c := fn_ok hm (D := spec_l14One_D) (DOk.cons ok_spec_l00In (DOk.cons ok_spec_l01Name (DOk.cons ok_spec_l14Grams (DOk.cons ok_spec_l14Heat DOk.nil)))) (by kernel_rfl) _ _ _ _
theorem ok_spec_l14Ok : FOk Tryz.prog phi 53 spec_l14Ok_c := fn_ok hm (D := spec_l14Ok_D) (DOk.cons ok_spec_l14One DOk.nil) (by kernel_rfl) _ _ _ _
theorem ok_spec_l16Tone : FOk Tryz.prog phi 1012 spec_l16Tone_c := fn_ok hm (D := spec_l16Tone_D) (DOk.cons ok_spec_l00In DOk.nil) (by kernel_rfl) _ _ _ _
theorem ok_spec_l16One : FOk Tryz.prog phi 848 spec_l16One_c := fn_ok hm (D := spec_l16One_D) (DOk.cons ok_spec_l00In (DOk.cons ok_spec_l01Name (DOk.cons ok_spec_l16Tone DOk.nil))) (by kernel_rfl) _ _ _ _
theorem ok_spec_l16Ok : FOk Tryz.prog phi 474 spec_l16Ok_c := fn_ok hm (D := spec_l16Ok_D) (DOk.cons ok_spec_l16One DOk.nil) (by kernel_rfl) _ _ _ _
theorem ok_spec_l18Days : FOk Tryz.prog phi 1054 spec_l18Days_c := fn_ok hm (D := spec_l18Days_D) (DOk.cons ok_spec_l00In DOk.nil) (by kernel_rfl) _ _ _ _
theorem ok_spec_l18Day : FOk Tryz.prog phi 1055 spec_l18Day_c := fn_ok hm (D := spec_l18Day_D) (DOk.cons ok_spec_l00In DOk.nil) (by kernel_rfl) _ _ _ _
theorem ok_spec_l18One : FOk Tryz.prog phi 976 spec_l18One_c := fn_ok hm (D := spec_l18One_D) (DOk.cons ok_spec_l01Name (DOk.cons ok_spec_l18Days (DOk.cons ok_spec_l18Day DOk.nil))) (by kernel_rfl) _ _ _ _
theorem ok_spec_l18Ok : FOk Tryz.prog phi 790 spec_l18Ok_c := fn_ok hm (D := spec_l18Ok_D) (DOk.cons ok_spec_l18One DOk.nil) (by kernel_rfl) _ _ _ _
theorem ok_spec_l20Year : FOk Tryz.prog phi 645 spec_l20Year_c := fn_ok hm (D := spec_l20Year_D) (DOk.cons ok_spec_l00In DOk.nil) (by kernel_rfl) _ _ _ _
theorem ok_spec_l20One : FOk Tryz.prog phi 912 spec_l20One_c := fn_ok hm (D := spec_l20One_D) (DOk.cons ok_spec_l00In (DOk.cons ok_spec_l01Name (DOk.cons ok_spec_l20Year DOk.nil))) (by kernel_rfl) _ _ _ _
theorem ok_spec_l20Ok : FOk Tryz.prog phi 640 spec_l20Ok_c := fn_ok hm (D := spec_l20Ok_D) (DOk.cons ok_spec_l20One DOk.nil) (by kernel_rfl) _ _ _ _
theorem ok_spec_l32Ok : FOk Tryz.prog phi 712 spec_l32Ok_c := fn_ok hm (D := spec_l32Ok_D) (DOk.cons ok_spec_l14Ok (DOk.cons ok_spec_l10Ok (DOk.cons ok_spec_l16Ok (DOk.cons ok_spec_l12Ok (DOk.cons ok_spec_l20Ok (DOk.cons ok_spec_l08Ok (DOk.cons ok_spec_l18Ok (DOk.cons ok_spec_l04Ok (DOk.cons ok_spec_l06Ok DOk.nil))))))))) (by kernel_rfl) _ _ _ _
theorem ok_spec_l01Dec : FOk Tryz.prog phi 726 spec_l01Dec_c := fn_ok hm (D := spec_l01Dec_D) DOk.nil (by kernel_rfl) _ _ _ _
theorem ok_spec_DeskReport : FOk Tryz.prog phi 397 spec_DeskReport_c := fn_ok hm (D := spec_DeskReport_D) (DOk.cons ok_spec_l32Ok (DOk.cons ok_spec_l01Dec DOk.nil)) (by kernel_rfl) _ _ _ _
theorem ok_impl_isDigit : FOk Tryz.prog phi 22 impl_isDigit_c := fn_ok hm (D := impl_isDigit_D) DOk.nil (by kernel_rfl) _ _ _ _
theorem ok_impl_few : FOk Tryz.prog phi 21 impl_few_c := fn_ok hm (D := impl_few_D) DOk.nil (by kernel_rfl) _ _ _ _
theorem ok_impl_IsName : FOk Tryz.prog phi 24 impl_IsName_c := fn_ok hm (D := impl_IsName_D) (DOk.cons ok_impl_few (DOk.cons ok_impl_isDigit DOk.nil)) (by kernel_rfl) _ _ _ _
theorem ok_impl_within : FOk Tryz.prog phi 23 impl_within_c := fn_ok hm (D := impl_within_D) DOk.nil (by kernel_rfl) _ _ _ _
theorem ok_impl_isPart : FOk Tryz.prog phi 483 impl_isPart_c := fn_ok hm (D := impl_isPart_D) (DOk.cons ok_impl_within DOk.nil) (by kernel_rfl) _ _ _ _
theorem ok_impl_isDay : FOk Tryz.prog phi 682 impl_isDay_c := fn_ok hm (D := impl_isDay_D) (DOk.cons ok_impl_within DOk.nil) (by kernel_rfl) _ _ _ _
theorem ok_impl_Stack_valid : FOk Tryz.prog phi 485 impl_Stack_valid_c := fn_ok hm (D := impl_Stack_valid_D) (DOk.cons ok_impl_within (DOk.cons ok_impl_IsName (DOk.cons ok_impl_isPart (DOk.cons ok_impl_isDay DOk.nil)))) (by kernel_rfl) _ _ _ _
theorem ok_impl_ValidStacks : FOk Tryz.prog phi 713 impl_ValidStacks_c := fn_ok hm (D := impl_ValidStacks_D) (DOk.cons ok_impl_few (DOk.cons ok_impl_Stack_valid DOk.nil)) (by kernel_rfl) _ _ _ _
theorem ok_impl_Rib_valid : FOk Tryz.prog phi 762 impl_Rib_valid_c := fn_ok hm (D := impl_Rib_valid_D) (DOk.cons ok_impl_within (DOk.cons ok_impl_IsName DOk.nil)) (by kernel_rfl) _ _ _ _
theorem ok_impl_ValidRibs : FOk Tryz.prog phi 509 impl_ValidRibs_c := fn_ok hm (D := impl_ValidRibs_D) (DOk.cons ok_impl_few (DOk.cons ok_impl_Rib_valid DOk.nil)) (by kernel_rfl) _ _ _ _
theorem ok_impl_isGrid : FOk Tryz.prog phi 944 impl_isGrid_c := fn_ok hm (D := impl_isGrid_D) (DOk.cons ok_impl_within DOk.nil) (by kernel_rfl) _ _ _ _
theorem ok_impl_ValidPlate : FOk Tryz.prog phi 714 impl_ValidPlate_c := fn_ok hm (D := impl_ValidPlate_D) (DOk.cons ok_impl_isGrid DOk.nil) (by kernel_rfl) _ _ _ _
theorem ok_impl_ValidNeck : FOk Tryz.prog phi 444 impl_ValidNeck_c := fn_ok hm (D := impl_ValidNeck_D) (DOk.cons ok_impl_within DOk.nil) (by kernel_rfl) _ _ _ _
theorem ok_impl_isHole : FOk Tryz.prog phi 500 impl_isHole_c := fn_ok hm (D := impl_isHole_D) (DOk.cons ok_impl_within DOk.nil) (by kernel_rfl) _ _ _ _
theorem ok_impl_Peg_valid : FOk Tryz.prog phi 796 impl_Peg_valid_c := fn_ok hm (D := impl_Peg_valid_D) (DOk.cons ok_impl_within (DOk.cons ok_impl_IsName (DOk.cons ok_impl_isHole DOk.nil))) (by kernel_rfl) _ _ _ _
theorem ok_impl_ValidPegs : FOk Tryz.prog phi 468 impl_ValidPegs_c := fn_ok hm (D := impl_ValidPegs_D) (DOk.cons ok_impl_few (DOk.cons ok_impl_Peg_valid DOk.nil)) (by kernel_rfl) _ _ _ _
theorem ok_impl_isGrams : FOk Tryz.prog phi 25 impl_isGrams_c := fn_ok hm (D := impl_isGrams_D) (DOk.cons ok_impl_within DOk.nil) (by kernel_rfl) _ _ _ _
theorem ok_impl_isHeat : FOk Tryz.prog phi 26 impl_isHeat_c := fn_ok hm (D := impl_isHeat_D) (DOk.cons ok_impl_within DOk.nil) (by kernel_rfl) _ _ _ _
theorem ok_impl_Pot_valid : FOk Tryz.prog phi 30 impl_Pot_valid_c := fn_ok hm (D := impl_Pot_valid_D) (DOk.cons ok_impl_within (DOk.cons ok_impl_IsName (DOk.cons ok_impl_isGrams (DOk.cons ok_impl_isHeat DOk.nil)))) (by kernel_rfl) _ _ _ _
theorem ok_impl_ValidPots : FOk Tryz.prog phi 57 impl_ValidPots_c := fn_ok hm (D := impl_ValidPots_D) (DOk.cons ok_impl_few (DOk.cons ok_impl_Pot_valid DOk.nil)) (by kernel_rfl) _ _ _ _
theorem ok_impl_isTone : FOk Tryz.prog phi 545 impl_isTone_c := fn_ok hm (D := impl_isTone_D) (DOk.cons ok_impl_within DOk.nil) (by kernel_rfl) _ _ _ _
theorem ok_impl_Mode_valid : FOk Tryz.prog phi 551 impl_Mode_valid_c := fn_ok hm (D := impl_Mode_valid_D) (DOk.cons ok_impl_within (DOk.cons ok_impl_IsName (DOk.cons ok_impl_isTone DOk.nil))) (by kernel_rfl) _ _ _ _
theorem ok_impl_ValidModes : FOk Tryz.prog phi 472 impl_ValidModes_c := fn_ok hm (D := impl_ValidModes_D) (DOk.cons ok_impl_few (DOk.cons ok_impl_Mode_valid DOk.nil)) (by kernel_rfl) _ _ _ _
theorem ok_impl_isSpan : FOk Tryz.prog phi 977 impl_isSpan_c := fn_ok hm (D := impl_isSpan_D) (DOk.cons ok_impl_within DOk.nil) (by kernel_rfl) _ _ _ _
theorem ok_impl_isDate : FOk Tryz.prog phi 978 impl_isDate_c := fn_ok hm (D := impl_isDate_D) (DOk.cons ok_impl_within DOk.nil) (by kernel_rfl) _ _ _ _
theorem ok_impl_Work_valid : FOk Tryz.prog phi 791 impl_Work_valid_c := fn_ok hm (D := impl_Work_valid_D) (DOk.cons ok_impl_IsName (DOk.cons ok_impl_isSpan (DOk.cons ok_impl_isDate DOk.nil))) (by kernel_rfl) _ _ _ _
theorem ok_impl_ValidWorks : FOk Tryz.prog phi 715 impl_ValidWorks_c := fn_ok hm (D := impl_ValidWorks_D) (DOk.cons ok_impl_few (DOk.cons ok_impl_Work_valid DOk.nil)) (by kernel_rfl) _ _ _ _
theorem ok_impl_Paper_valid : FOk Tryz.prog phi 809 impl_Paper_valid_c := fn_ok hm (D := impl_Paper_valid_D) (DOk.cons ok_impl_within (DOk.cons ok_impl_IsName DOk.nil)) (by kernel_rfl) _ _ _ _
theorem ok_impl_ValidPapers : FOk Tryz.prog phi 635 impl_ValidPapers_c := fn_ok hm (D := impl_ValidPapers_D) (DOk.cons ok_impl_few (DOk.cons ok_impl_Paper_valid DOk.nil)) (by kernel_rfl) _ _ _ _
theorem ok_impl_ValidDesk : FOk Tryz.prog phi 288 impl_ValidDesk_c := fn_ok hm (D := impl_ValidDesk_D) (DOk.cons ok_impl_ValidPots (DOk.cons ok_impl_ValidNeck (DOk.cons ok_impl_ValidPegs (DOk.cons ok_impl_ValidModes (DOk.cons ok_impl_ValidRibs (DOk.cons ok_impl_ValidPapers (DOk.cons ok_impl_ValidStacks (DOk.cons ok_impl_ValidPlate (DOk.cons ok_impl_ValidWorks DOk.nil))))))))) (by kernel_rfl) _ _ _ _
theorem ok_strconv_FormatInt : FOk Tryz.prog phi 864 strconv_FormatInt_c := formatInt_ok Tryz.laysM173 ⟨0,by kernel_rfl⟩ (by kernel_rfl)
theorem ok_impl_Decimal : FOk Tryz.prog phi 524 impl_Decimal_c := fn_ok hm (D := impl_Decimal_D) (DOk.cons ok_strconv_FormatInt DOk.nil) (by kernel_rfl) _ _ _ _
theorem ok_impl_DeskReport_1 : FOk Tryz.prog phi 810 impl_DeskReport_1_c := fn_ok hm (D := impl_DeskReport_1_D) (DOk.cons ok_impl_Decimal DOk.nil) (by kernel_rfl) _ _ _ _
theorem ok_impl_DeskReport : FOk Tryz.prog phi 396 impl_DeskReport_c := fn_ok hm (D := impl_DeskReport_D) (DOk.cons ok_impl_ValidDesk (DOk.cons ok_impl_Decimal (DOk.cons ok_impl_DeskReport_1 DOk.nil))) (by kernel_rfl) _ _ _ _
theorem ok_laws_eqStringS : FOk Tryz.prog phi 137 laws_eqStringS_c := fn_ok hm (D := laws_eqStringS_D) DOk.nil (by kernel_rfl) _ _ _ _
theorem ok_laws_eqStack : FOk Tryz.prog phi 881 laws_eqStack_c := fn_ok hm (D := laws_eqStack_D) DOk.nil (by kernel_rfl) _ _ _ _
theorem ok_laws_eqStackS : FOk Tryz.prog phi 582 laws_eqStackS_c := fn_ok hm (D := laws_eqStackS_D) (DOk.cons ok_laws_eqStack DOk.nil) (by kernel_rfl) _ _ _ _
theorem ok_laws_eqRib : FOk Tryz.prog phi 882 laws_eqRib_c := fn_ok hm (D := laws_eqRib_D) DOk.nil (by kernel_rfl) _ _ _ _
theorem ok_laws_eqRibS : FOk Tryz.prog phi 581 laws_eqRibS_c := fn_ok hm (D := laws_eqRibS_D) (DOk.cons ok_laws_eqRib DOk.nil) (by kernel_rfl) _ _ _ _
theorem ok_laws_eqInt64S : FOk Tryz.prog phi 42 laws_eqInt64S_c := fn_ok hm (D := laws_eqInt64S_D) DOk.nil (by kernel_rfl) _ _ _ _
theorem ok_laws_eqInt64SS : FOk Tryz.prog phi 580 laws_eqInt64SS_c := fn_ok hm (D := laws_eqInt64SS_D) (DOk.cons ok_laws_eqInt64S DOk.nil) (by kernel_rfl) _ _ _ _
theorem ok_laws_eqNeck : FOk Tryz.prog phi 579 laws_eqNeck_c := fn_ok hm (D := laws_eqNeck_D) DOk.nil (by kernel_rfl) _ _ _ _
theorem ok_laws_eqPeg : FOk Tryz.prog phi 502 laws_eqPeg_c := fn_ok hm (D := laws_eqPeg_D) DOk.nil (by kernel_rfl) _ _ _ _
theorem ok_laws_eqPegS : FOk Tryz.prog phi 124 laws_eqPegS_c := fn_ok hm (D := laws_eqPegS_D) (DOk.cons ok_laws_eqPeg DOk.nil) (by kernel_rfl) _ _ _ _
theorem ok_laws_eqPot : FOk Tryz.prog phi 58 laws_eqPot_c := fn_ok hm (D := laws_eqPot_D) DOk.nil (by kernel_rfl) _ _ _ _
theorem ok_laws_eqPotS : FOk Tryz.prog phi 60 laws_eqPotS_c := fn_ok hm (D := laws_eqPotS_D) (DOk.cons ok_laws_eqPot DOk.nil) (by kernel_rfl) _ _ _ _
theorem ok_laws_eqMode : FOk Tryz.prog phi 883 laws_eqMode_c := fn_ok hm (D := laws_eqMode_D) DOk.nil (by kernel_rfl) _ _ _ _
theorem ok_laws_eqModeS : FOk Tryz.prog phi 578 laws_eqModeS_c := fn_ok hm (D := laws_eqModeS_D) (DOk.cons ok_laws_eqMode DOk.nil) (by kernel_rfl) _ _ _ _
theorem ok_laws_eqWork : FOk Tryz.prog phi 884 laws_eqWork_c := fn_ok hm (D := laws_eqWork_D) DOk.nil (by kernel_rfl) _ _ _ _
theorem ok_laws_eqWorkS : FOk Tryz.prog phi 577 laws_eqWorkS_c := fn_ok hm (D := laws_eqWorkS_D) (DOk.cons ok_laws_eqWork DOk.nil) (by kernel_rfl) _ _ _ _
theorem ok_laws_eqPaper : FOk Tryz.prog phi 728 laws_eqPaper_c := fn_ok hm (D := laws_eqPaper_D) DOk.nil (by kernel_rfl) _ _ _ _
theorem ok_laws_eqPaperS : FOk Tryz.prog phi 298 laws_eqPaperS_c := fn_ok hm (D := laws_eqPaperS_D) (DOk.cons ok_laws_eqPaper DOk.nil) (by kernel_rfl) _ _ _ _
theorem ok_laws_eqDesk : FOk Tryz.prog phi 195 laws_eqDesk_c := fn_ok hm (D := laws_eqDesk_D) (DOk.cons ok_laws_eqPotS (DOk.cons ok_laws_eqPegS (DOk.cons ok_laws_eqPaperS (DOk.cons ok_laws_eqWorkS (DOk.cons ok_laws_eqModeS (DOk.cons ok_laws_eqNeck (DOk.cons ok_laws_eqInt64SS (DOk.cons ok_laws_eqRibS (DOk.cons ok_laws_eqStackS DOk.nil))))))))) (by kernel_rfl) _ _ _ _
theorem ok_laws_toNeck : FOk Tryz.prog phi 655 laws_toNeck_c := fn_ok hm (D := laws_toNeck_D) DOk.nil (by kernel_rfl) _ _ _ _
theorem ok_laws_toStack : FOk Tryz.prog phi 917 laws_toStack_c := fn_ok hm (D := laws_toStack_D) DOk.nil (by kernel_rfl) _ _ _ _
theorem ok_laws_toStackS : FOk Tryz.prog phi 658 laws_toStackS_c := fn_ok hm (D := laws_toStackS_D) (DOk.cons ok_laws_toStack DOk.nil) (by kernel_rfl) _ _ _ _
theorem ok_laws_toRib : FOk Tryz.prog phi 918 laws_toRib_c := fn_ok hm (D := laws_toRib_D) DOk.nil (by kernel_rfl) _ _ _ _
theorem ok_laws_toRibS : FOk Tryz.prog phi 657 laws_toRibS_c := fn_ok hm (D := laws_toRibS_D) (DOk.cons ok_laws_toRib DOk.nil) (by kernel_rfl) _ _ _ _
theorem ok_laws_toPeg : FOk Tryz.prog phi 498 laws_toPeg_c := fn_ok hm (D := laws_toPeg_D) DOk.nil (by kernel_rfl) _ _ _ _
theorem ok_laws_toPegS : FOk Tryz.prog phi 120 laws_toPegS_c := fn_ok hm (D := laws_toPegS_D) (DOk.cons ok_laws_toPeg DOk.nil) (by kernel_rfl) _ _ _ _
theorem ok_laws_toPot : FOk Tryz.prog phi 31 laws_toPot_c := fn_ok hm (D := laws_toPot_D) DOk.nil (by kernel_rfl) _ _ _ _
theorem ok_laws_toPotS : FOk Tryz.prog phi 59 laws_toPotS_c := fn_ok hm (D := laws_toPotS_D) (DOk.cons ok_laws_toPot DOk.nil) (by kernel_rfl) _ _ _ _
theorem ok_laws_toMode : FOk Tryz.prog phi 919 laws_toMode_c := fn_ok hm (D := laws_toMode_D) DOk.nil (by kernel_rfl) _ _ _ _
theorem ok_laws_toModeS : FOk Tryz.prog phi 654 laws_toModeS_c := fn_ok hm (D := laws_toModeS_D) (DOk.cons ok_laws_toMode DOk.nil) (by kernel_rfl) _ _ _ _
theorem ok_laws_toWork : FOk Tryz.prog phi 920 laws_toWork_c := fn_ok hm (D := laws_toWork_D) DOk.nil (by kernel_rfl) _ _ _ _
theorem ok_laws_toWorkS : FOk Tryz.prog phi 653 laws_toWorkS_c := fn_ok hm (D := laws_toWorkS_D) (DOk.cons ok_laws_toWork DOk.nil) (by kernel_rfl) _ _ _ _
theorem ok_laws_toPaper : FOk Tryz.prog phi 727 laws_toPaper_c := fn_ok hm (D := laws_toPaper_D) DOk.nil (by kernel_rfl) _ _ _ _
theorem ok_laws_toPaperS : FOk Tryz.prog phi 295 laws_toPaperS_c := fn_ok hm (D := laws_toPaperS_D) (DOk.cons ok_laws_toPaper DOk.nil) (by kernel_rfl) _ _ _ _
theorem ok_laws_toInt64S : FOk Tryz.prog phi 121 laws_toInt64S_c := fn_ok hm (D := laws_toInt64S_D) DOk.nil (by kernel_rfl) _ _ _ _
theorem ok_laws_markText : FOk Tryz.prog phi 40 laws_markText_c := fn_ok hm (D := laws_markText_D) DOk.nil (by kernel_rfl) _ _ _ _
theorem ok_laws_markStackS : FOk Tryz.prog phi 587 laws_markStackS_c := fn_ok hm (D := laws_markStackS_D) (DOk.cons ok_laws_markText DOk.nil) (by kernel_rfl) _ _ _ _
theorem ok_laws_markRibS : FOk Tryz.prog phi 586 laws_markRibS_c := fn_ok hm (D := laws_markRibS_D) (DOk.cons ok_laws_markText DOk.nil) (by kernel_rfl) _ _ _ _
theorem ok_laws_markPegS : FOk Tryz.prog phi 123 laws_markPegS_c := fn_ok hm (D := laws_markPegS_D) (DOk.cons ok_laws_markText DOk.nil) (by kernel_rfl) _ _ _ _
theorem ok_laws_markPotS : FOk Tryz.prog phi 323 laws_markPotS_c := fn_ok hm (D := laws_markPotS_D) (DOk.cons ok_laws_markText DOk.nil) (by kernel_rfl) _ _ _ _
theorem ok_laws_markModeS : FOk Tryz.prog phi 584 laws_markModeS_c := fn_ok hm (D := laws_markModeS_D) (DOk.cons ok_laws_markText DOk.nil) (by kernel_rfl) _ _ _ _
theorem ok_laws_markWorkS : FOk Tryz.prog phi 583 laws_markWorkS_c := fn_ok hm (D := laws_markWorkS_D) (DOk.cons ok_laws_markText DOk.nil) (by kernel_rfl) _ _ _ _
theorem ok_laws_markPaperS : FOk Tryz.prog phi 297 laws_markPaperS_c := fn_ok hm (D := laws_markPaperS_D) (DOk.cons ok_laws_markText DOk.nil) (by kernel_rfl) _ _ _ _
theorem ok_laws_markInt64S : FOk Tryz.prog phi 45 laws_markInt64S_c := fn_ok hm (D := laws_markInt64S_D) DOk.nil (by kernel_rfl) _ _ _ _
theorem ok_laws_markStringS : FOk Tryz.prog phi 139 laws_markStringS_c := fn_ok hm (D := laws_markStringS_D) (DOk.cons ok_laws_markText DOk.nil) (by kernel_rfl) _ _ _ _
theorem ok_laws_heldStringS : FOk Tryz.prog phi 136 laws_heldStringS_c := fn_ok hm (D := laws_heldStringS_D) (DOk.cons ok_laws_markText DOk.nil) (by kernel_rfl) _ _ _ _
section
open Go.Ab
set_option maxHeartbeats 3200000 in
theorem ss_to_all : ∀ (b off len cap : Nat) (w : World) (aa : Nat → Value) (V4 : Nat → Value → Nat → Nat → World → Prop),b < w.heap.size → len ≤ 1099511627776 →
 (∀ j,j < len → w.cell? ⟨b,off + j,none⟩ = some (aa j)) →
 (∀ j v lo hi w w',V4 j v lo hi w → Hi lo w w' → V4 j v lo hi w') →
 (∀ j,j < len → ∀ w',Lo w.heap.size w w' → Calls Tryz.prog 72 #[aa j] w' fun e w'' => ∃ ad n cap,e = .returned (.slice ad n cap) ∧ Lo w'.heap.size w' w'' ∧ V4 j (.slice ad n cap) w'.heap.size w''.heap.size w'') →
 Calls Tryz.prog 25 #[.slice (some ⟨b,off,none⟩) len cap] w fun e w' => e = .returned (.slice (some ⟨w.heap.size,0,none⟩) len len) ∧ Lo w.heap.size w w' ∧
  ∃ (C : Array Value) (lo hi : Nat → Nat),w'.heap[w.heap.size]? = some (.cells C 64) ∧ C.size = len ∧ (∀ j,j < len → ∃ ad n cap,C[j]? = some (.slice ad n cap) ∧
    V4 j (.slice ad n cap) (lo j) (hi j) w' ∧ w.heap.size < lo j ∧ hi j ≤ w'.heap.size) ∧ ∀ i j,i < j → j < len → hi i ≤ lo j := by
 intro b off len cap w aa V4 hb hl h0 hV hT
 have hmk : ∀ w' : World,(Instr.makeSlice 24 (.int .i64 (len : Int)) (.int .i64 (len : Int))).run Tryz.prog w' = .ok (.slice (some ⟨w'.heap.size,0,none⟩) len len) (w'.alloc (.cells (madeCells #[Value.slice none 0 0] len) 64)) := by
  intro w'
  have hI : (Tryz.prog.info? 64).map (fun i => (i.zero,i.size,i.bytes)) = some (some (.slice none 0 0),1,24) := by kernel_rfl
  obtain ⟨i,hi,he⟩ := Option.map_eq_some_iff.1 hI
  simp only [Prod.mk.injEq] at he
  have h := run_make (P := Tryz.prog) w' 24 64 i _ Tryz.underlying24 hi he.1 .i64 .i64 len len (by omega) (Int.le_refl _) (by rw [he.2.2]; omega) (by omega)
  rw [he.2.1] at h
  simp only [Nat.mul_one] at h
  exact h
 go_enter Tryz.func25,Tryz.ntmps25
 go_wp2_with (fail)
 go_loopw [4] (fun i wr => ∃ k : Nat,k ≤ len ∧ i = .int .i64 k ∧ Lo w.heap.size w wr ∧ w.heap.size + 1 ≤ wr.heap.size ∧
  ∃ (C : Array Value) (lo hi : Nat → Nat),wr.heap[w.heap.size]? = some (.cells C 64) ∧ C.size = len ∧ (∀ j,j < k → ∃ ad n cap,C[j]? = some (.slice ad n cap) ∧
    V4 j (.slice ad n cap) (lo j) (hi j) wr ∧ w.heap.size < lo j ∧ hi j ≤ wr.heap.size) ∧ ∀ i j,i < j → j < k → hi i ≤ lo j)
  (fun i _ => len - (intOf i).toNat)
 case atStart =>
  refine ⟨0,Nat.zero_le _,rfl,(Lo.refl _ _).alloc (Nat.le_refl _) _,by simp,_,fun _ => 0,fun _ => 0,get_new _ _ rfl,by rw [size_madeCells],fun j h => absurd h (Nat.not_lt_zero _),fun i j _ h => absurd h (Nat.not_lt_zero _)⟩
 case round =>
  obtain ⟨k,hk,rfl,hnx,hsz,C,lo,hi,hC,hCs,hdone,hch⟩ := hrel
  rcases Nat.lt_or_ge k len with hkl | hkl
  ·have c0 := (hnx.cell (by exact hb)).trans (h0 k hkl)
   go_wp2_with (fail)
   go_at_call 72
   refine (hT k hkl _ hnx).mono ?_
   rintro e w1 ⟨ad,n,cp,rfl,hw1,hv1⟩
   have hC1 : w1.heap[w.heap.size]? = some (.cells C 64) := (hw1.block _ (by omega)).trans hC
   have o0 : k < C.size := by omega
   have q0 : w1.cell? ⟨w.heap.size,k,none⟩ = some C[k] := by simp [World.cell?,hC1,o0]
   have f1 : ∀ j,w1.frozen? ⟨w.heap.size,j,none⟩ = false := fun j => by simp [World.frozen?,hC1]
   go_wp2_with (fail)
   go_roundw
   case rel =>
    have hwL := hw1.size
    refine ⟨k + 1,by omega,by go_num,?_,by simp only [setCell_size]; omega,_,fun j => if j = k then wr.heap.size else lo j,fun j => if j = k then w1.heap.size else hi j,setCell_at hC1 _ _,by simpa using hCs,fun j hj => ?_,fun i j hij hj => ?_⟩
    ·exact Lo.setCell (hnx.trans (hw1.mono hnx.size)) (Nat.le_refl _)
    ·rcases Nat.lt_or_ge j k with hjk | hjk
     ·obtain ⟨ad',n',cp',d3,d4,d5,d6⟩ := hdone j hjk
      have hne : j ≠ k := by omega
      simp only [hne,if_false]
      refine ⟨ad',n',cp',(Array.getElem?_setIfInBounds_ne (by omega)).trans d3,?_,d5,?_⟩
      ·exact hV _ _ _ _ _ _ d4 ((Hi.of_lo hw1).setCell d5)
      ·simp only [setCell_size]; omega
     ·obtain rfl : j = k := by omega
      simp only [if_true]
      have hlt : w.heap.size < wr.heap.size := by omega
      exact ⟨ad,n,cp,by rw [Array.getElem?_setIfInBounds_self_of_lt (by omega)],hV _ _ _ _ _ _ hv1 ((Hi.refl _ _).setCell hlt),hlt,by simp only [setCell_size]; omega⟩
    ·have hne : i ≠ k := by omega
     simp only [hne,if_false]
     rcases Nat.lt_or_ge j k with hjk | hjk
     ·have hne : j ≠ k := by omega
      simp only [hne,if_false]
      exact hch i j hij hjk
     ·obtain rfl : j = k := by omega
      simp only [if_true]
      obtain ⟨_,_,_,_,_,_,d6⟩ := hdone i hij
      exact d6
   case measure => simp [intOf]; omega
  ·have : k = len := by omega
   subst this
   go_wp2_with (fail)
   go_ret
   exact ⟨rfl,hnx,C,lo,hi,hC,hCs,hdone,hch⟩
set_option maxHeartbeats 3200000 in
theorem ss_to_nil : ∀ (a : Option Addr) (cap : Nat) (w : World),Calls Tryz.prog 25 #[.slice a 0 cap] w fun e w' => e = .returned (.slice (some ⟨w.heap.size,0,none⟩) 0 0) ∧ Lo w.heap.size w w' ∧ w'.heap[w.heap.size]? = some (.cells #[] 64) := by
 intro a cap w
 have hmk : ∀ w' : World,(Instr.makeSlice 24 (.int .i64 0) (.int .i64 0)).run Tryz.prog w' = .ok (.slice (some ⟨w'.heap.size,0,none⟩) 0 0) (w'.alloc (.cells #[] 64)) := by
  intro w'
  have hI : (Tryz.prog.info? 64).map (fun i => (i.zero,i.size,i.bytes)) = some (some (.slice none 0 0),1,24) := by kernel_rfl
  obtain ⟨i,hi,he⟩ := Option.map_eq_some_iff.1 hI
  simp only [Prod.mk.injEq] at he
  have h := run_make (P := Tryz.prog) w' 24 64 i _ Tryz.underlying24 hi he.1 .i64 .i64 0 0 (by omega) (Int.le_refl _) (by rw [he.2.2]; omega) (by omega)
  rw [he.2.1] at h
  have e : madeCells (Value.slice none 0 0).cells (Int.toNat 0 * 1) = #[] := Array.eq_empty_of_size_eq_zero (by rw [size_madeCells]; rfl)
  rw [e] at h
  exact h
 go_enter Tryz.func25,Tryz.ntmps25
 go_wp2_with (fail)
 refine wp_loop_rounds 1 ?_
 rw [rounds_succ]
 go_wp2_with (fail)
 go_ret
 exact ⟨rfl,(Lo.refl _ _).alloc (Nat.le_refl _) _,get_new _ _ rfl⟩
theorem ss_rows_walk : RowsWalk Tryz.prog 25 72 64 := ⟨ss_to_nil,ss_to_all⟩
set_option maxHeartbeats 3200000 in
theorem ss_mark_walk : MarkRowsWalk Tryz.prog 46 96 64 := ⟨by
 intro b len cap m0 w C ad n cp lo hi V4 hl hm hn hC hCs h3 hlo hhi hdis h4 hV hI
 have hbw : b < w.heap.size := by
  rcases Nat.lt_or_ge b w.heap.size with h | h
  ·exact h
  ·rw [Array.getElem?_eq_none h] at hC; cases hC
 go_enter Tryz.func46,Tryz.ntmps46
 go_wp2_with (fail)
 go_loopw [1,5] (fun kv i wr => ∃ k : Nat,k ≤ len ∧ i = .int .i64 k ∧ ∃ m : Nat,kv = .int .i64 m ∧ m ≤ m0 + k * 4194304 ∧ Rg (fun c => ∃ j,j < len ∧ lo j ≤ c ∧ c < hi j) w wr ∧ ∀ j,k ≤ j → j < len → V4 j wr)
  (fun _ i _ => len - (intOf i).toNat)
 case atStart => exact ⟨0,Nat.zero_le _,rfl,m0,rfl,by omega,Rg.refl _ _,fun j _ hj => h4 j hj⟩
 case round =>
  obtain ⟨k,hk,rfl,m,rfl,hmb,hR,hV4⟩ := hrel
  rcases Nat.lt_or_ge k len with hkl | hkl
  ·have hkb : k * 4194304 ≤ 1048576 * 4194304 := Nat.mul_le_mul_right _ (by omega)
   have hmm : m ≤ 4600000000000000 := by omega
   have hC1 : wr.heap[b]? = some (.cells C 64) := (hR.block b hbw (fun ⟨j,hj,h1,h2⟩ => by have := hlo j hj; omega)).trans hC
   have q3 : wr.cell? ⟨b,k,none⟩ = some (.slice (ad k) (n k) (cp k)) := by simp [World.cell?,hC1,h3 k hkl]
   go_wp2_with (fail)
   go_at_call 96
   refine (hI k hkl m wr (by omega) hR (hV4 k (Nat.le_refl _) hkl)).mono ?_
   rintro e w3 ⟨m',rfl,hm',hR3⟩
   go_wp2_with (fail)
   go_roundw
   case rel =>
    refine ⟨k + 1,by omega,by go_num,m',rfl,?_,hR.trans (hR3.mono fun c hc => ⟨k,hkl,hc⟩),fun j h1 h2 => ?_⟩
    ·omega
    ·refine hV j _ _ h2 (hV4 j (by omega) h2) (fun c hc1 hc2 => ?_) hR3.size
     have := hdis k j (by omega) h2
     have := hhi j h2
     have := hR.size
     exact hR3.block c (by omega) (by omega)
   case measure => simp [intOf]; omega
  ·have : k = len := by omega
   subst this
   go_wp2_with (fail)
   go_ret
   exact ⟨m,rfl,hmb,hR⟩⟩
set_option maxHeartbeats 12800000 in
theorem to_desk_walk : ToDeskWalk Tryz.prog 6 23 24 25 26 27 28 29 30 31 := ⟨by
 intro w v0 v1 v2 v7 v8 v9 v10 v11 v3 v4 v5 v6 Q hP h0 h1 h2 h3 h7 h8 h9 h10 h11
 go_enter Tryz.func6,Tryz.ntmps6
 go_wp2_with (fail)
 have L : Lo w.heap.size w (((w.alloc (.cells #[v0,v1,v2,.int .i64 v3,.int .i64 v4,.int .i64 v5,.int .i64 v6,v7,v8,v9,v10,v11] 33)).alloc (.cells #[.slice none 0 0,.slice none 0 0,.slice none 0 0,.int .i64 0,.int .i64 0,.int .i64 0,.int .i64 0,.slice none 0 0,.slice none 0 0,.slice none 0 0,.slice none 0 0,.slice none 0 0] 47)).alloc (.cells #[.slice none 0 0,.slice none 0 0,.slice none 0 0,.int .i64 0,.int .i64 0,.int .i64 0,.int .i64 0,.slice none 0 0,.slice none 0 0,.slice none 0 0,.slice none 0 0,.slice none 0 0] 47)) := ((Lo.refl _ w).alloc (Nat.le_refl _) _).alloc (by simp) _ |>.alloc (by simp; omega) _
 have B0 : (((w.alloc (.cells #[v0,v1,v2,.int .i64 v3,.int .i64 v4,.int .i64 v5,.int .i64 v6,v7,v8,v9,v10,v11] 33)).alloc (.cells #[.slice none 0 0,.slice none 0 0,.slice none 0 0,.int .i64 0,.int .i64 0,.int .i64 0,.int .i64 0,.slice none 0 0,.slice none 0 0,.slice none 0 0,.slice none 0 0,.slice none 0 0] 47)).alloc (.cells #[.slice none 0 0,.slice none 0 0,.slice none 0 0,.int .i64 0,.int .i64 0,.int .i64 0,.int .i64 0,.slice none 0 0,.slice none 0 0,.slice none 0 0,.slice none 0 0,.slice none 0 0] 47)).heap[w.heap.size]? = some (.cells #[v0,v1,v2,.int .i64 v3,.int .i64 v4,.int .i64 v5,.int .i64 v6,v7,v8,v9,v10,v11] 33) := (get_old _ _ (by simp only [World.alloc,Array.size_push]; omega)).trans ((get_old _ _ (by simp only [World.alloc,Array.size_push]; omega)).trans (get_new _ _ rfl))
 have B1 : (((w.alloc (.cells #[v0,v1,v2,.int .i64 v3,.int .i64 v4,.int .i64 v5,.int .i64 v6,v7,v8,v9,v10,v11] 33)).alloc (.cells #[.slice none 0 0,.slice none 0 0,.slice none 0 0,.int .i64 0,.int .i64 0,.int .i64 0,.int .i64 0,.slice none 0 0,.slice none 0 0,.slice none 0 0,.slice none 0 0,.slice none 0 0] 47)).alloc (.cells #[.slice none 0 0,.slice none 0 0,.slice none 0 0,.int .i64 0,.int .i64 0,.int .i64 0,.int .i64 0,.slice none 0 0,.slice none 0 0,.slice none 0 0,.slice none 0 0,.slice none 0 0] 47)).heap[w.heap.size + 1]? = some (.cells #[.slice none 0 0,.slice none 0 0,.slice none 0 0,.int .i64 0,.int .i64 0,.int .i64 0,.int .i64 0,.slice none 0 0,.slice none 0 0,.slice none 0 0,.slice none 0 0,.slice none 0 0] 47) := (get_old _ _ (by simp)).trans (get_new _ _ (by simp))
 have B2 : (((w.alloc (.cells #[v0,v1,v2,.int .i64 v3,.int .i64 v4,.int .i64 v5,.int .i64 v6,v7,v8,v9,v10,v11] 33)).alloc (.cells #[.slice none 0 0,.slice none 0 0,.slice none 0 0,.int .i64 0,.int .i64 0,.int .i64 0,.int .i64 0,.slice none 0 0,.slice none 0 0,.slice none 0 0,.slice none 0 0,.slice none 0 0] 47)).alloc (.cells #[.slice none 0 0,.slice none 0 0,.slice none 0 0,.int .i64 0,.int .i64 0,.int .i64 0,.int .i64 0,.slice none 0 0,.slice none 0 0,.slice none 0 0,.slice none 0 0,.slice none 0 0] 47)).heap[w.heap.size + 1 + 1]? = some (.cells #[.slice none 0 0,.slice none 0 0,.slice none 0 0,.int .i64 0,.int .i64 0,.int .i64 0,.int .i64 0,.slice none 0 0,.slice none 0 0,.slice none 0 0,.slice none 0 0,.slice none 0 0] 47) := get_new _ _ (by simp)
 have Z : w.heap.size + 3 ≤ (((w.alloc (.cells #[v0,v1,v2,.int .i64 v3,.int .i64 v4,.int .i64 v5,.int .i64 v6,v7,v8,v9,v10,v11] 33)).alloc (.cells #[.slice none 0 0,.slice none 0 0,.slice none 0 0,.int .i64 0,.int .i64 0,.int .i64 0,.int .i64 0,.slice none 0 0,.slice none 0 0,.slice none 0 0,.slice none 0 0,.slice none 0 0] 47)).alloc (.cells #[.slice none 0 0,.slice none 0 0,.slice none 0 0,.int .i64 0,.int .i64 0,.int .i64 0,.int .i64 0,.slice none 0 0,.slice none 0 0,.slice none 0 0,.slice none 0 0,.slice none 0 0] 47)).heap.size := by simp
 go_at_call 23
 generalize (((w.alloc (.cells #[v0,v1,v2,.int .i64 v3,.int .i64 v4,.int .i64 v5,.int .i64 v6,v7,v8,v9,v10,v11] 33)).alloc (.cells #[.slice none 0 0,.slice none 0 0,.slice none 0 0,.int .i64 0,.int .i64 0,.int .i64 0,.int .i64 0,.slice none 0 0,.slice none 0 0,.slice none 0 0,.slice none 0 0,.slice none 0 0] 47)).alloc (.cells #[.slice none 0 0,.slice none 0 0,.slice none 0 0,.int .i64 0,.int .i64 0,.int .i64 0,.int .i64 0,.slice none 0 0,.slice none 0 0,.slice none 0 0,.slice none 0 0,.slice none 0 0] 47)) = y0 at *
 refine (h0 y0 L).mono ?_
 rintro e x0 ⟨ad0,n0,cp0,rfl,hx,p0⟩
 have hxs := hx.size
 replace B0 := (hx.block (w.heap.size) (by omega)).trans B0
 replace B1 := (hx.block (w.heap.size + 1) (by omega)).trans B1
 replace B2 := (hx.block (w.heap.size + 1 + 1) (by omega)).trans B2
 obtain ⟨lo0,hlo0⟩ : ∃ l,l = y0.heap.size := ⟨_,rfl⟩
 obtain ⟨hi0,hhi0⟩ : ∃ l,l = x0.heap.size := ⟨_,rfl⟩
 rw [← hlo0,← hhi0] at p0
 have i0 : lo0 ≤ hi0 ∧ w.heap.size + 3 ≤ lo0 := by omega
 have u0 : hi0 ≤ x0.heap.size := by omega
 replace L := L.trans (hx.mono (by omega : w.heap.size ≤ y0.heap.size))
 replace Z : w.heap.size + 3 ≤ x0.heap.size := by omega
 clear hx hxs hlo0 hhi0
 have g0 : x0.cell? ⟨w.heap.size,0,none⟩ = some (v0) := by simp [World.cell?,B0]
 have k0 : x0.cell? ⟨w.heap.size + 1 + 1,0,none⟩ = some (.slice none 0 0) := by simp [World.cell?,B2]
 have g1 : x0.cell? ⟨w.heap.size,1,none⟩ = some (v1) := by simp [World.cell?,B0]
 have k1 : x0.cell? ⟨w.heap.size + 1 + 1,1,none⟩ = some (.slice none 0 0) := by simp [World.cell?,B2]
 have g2 : x0.cell? ⟨w.heap.size,2,none⟩ = some (v2) := by simp [World.cell?,B0]
 have k2 : x0.cell? ⟨w.heap.size + 1 + 1,2,none⟩ = some (.slice none 0 0) := by simp [World.cell?,B2]
 have g3 : x0.cell? ⟨w.heap.size,3,none⟩ = some (.int .i64 v3) := by simp [World.cell?,B0]
 have k3 : x0.cell? ⟨w.heap.size + 1 + 1,3,none⟩ = some (.int .i64 0) := by simp [World.cell?,B2]
 have g4 : x0.cell? ⟨w.heap.size,4,none⟩ = some (.int .i64 v4) := by simp [World.cell?,B0]
 have k4 : x0.cell? ⟨w.heap.size + 1 + 1,4,none⟩ = some (.int .i64 0) := by simp [World.cell?,B2]
 have g5 : x0.cell? ⟨w.heap.size,5,none⟩ = some (.int .i64 v5) := by simp [World.cell?,B0]
 have k5 : x0.cell? ⟨w.heap.size + 1 + 1,5,none⟩ = some (.int .i64 0) := by simp [World.cell?,B2]
 have g6 : x0.cell? ⟨w.heap.size,6,none⟩ = some (.int .i64 v6) := by simp [World.cell?,B0]
 have k6 : x0.cell? ⟨w.heap.size + 1 + 1,6,none⟩ = some (.int .i64 0) := by simp [World.cell?,B2]
 have g7 : x0.cell? ⟨w.heap.size,7,none⟩ = some (v7) := by simp [World.cell?,B0]
 have k7 : x0.cell? ⟨w.heap.size + 1 + 1,7,none⟩ = some (.slice none 0 0) := by simp [World.cell?,B2]
 have g8 : x0.cell? ⟨w.heap.size,8,none⟩ = some (v8) := by simp [World.cell?,B0]
 have k8 : x0.cell? ⟨w.heap.size + 1 + 1,8,none⟩ = some (.slice none 0 0) := by simp [World.cell?,B2]
 have g9 : x0.cell? ⟨w.heap.size,9,none⟩ = some (v9) := by simp [World.cell?,B0]
 have k9 : x0.cell? ⟨w.heap.size + 1 + 1,9,none⟩ = some (.slice none 0 0) := by simp [World.cell?,B2]
 have g10 : x0.cell? ⟨w.heap.size,10,none⟩ = some (v10) := by simp [World.cell?,B0]
 have k10 : x0.cell? ⟨w.heap.size + 1 + 1,10,none⟩ = some (.slice none 0 0) := by simp [World.cell?,B2]
 have g11 : x0.cell? ⟨w.heap.size,11,none⟩ = some (v11) := by simp [World.cell?,B0]
 have k11 : x0.cell? ⟨w.heap.size + 1 + 1,11,none⟩ = some (.slice none 0 0) := by simp [World.cell?,B2]
 have f2 : ∀ j,x0.frozen? ⟨w.heap.size + 1 + 1,j,none⟩ = false := fun j => by simp [World.frozen?,B2]
 go_wp2_with (fail)
 go_at_call 24
 have D0 : (x0.setCell ⟨w.heap.size + 1 + 1,0,none⟩ (.slice ad0 n0 cp0)).heap[w.heap.size]? = some (.cells #[v0,v1,v2,.int .i64 v3,.int .i64 v4,.int .i64 v5,.int .i64 v6,v7,v8,v9,v10,v11] 33) := by rw [setCell_block _ _ _ _ _ (by omega)]; exact B0
 have D1 : (x0.setCell ⟨w.heap.size + 1 + 1,0,none⟩ (.slice ad0 n0 cp0)).heap[w.heap.size + 1]? = some (.cells #[.slice none 0 0,.slice none 0 0,.slice none 0 0,.int .i64 0,.int .i64 0,.int .i64 0,.int .i64 0,.slice none 0 0,.slice none 0 0,.slice none 0 0,.slice none 0 0,.slice none 0 0] 47) := by rw [setCell_block _ _ _ _ _ (by omega)]; exact B1
 have D2 : (x0.setCell ⟨w.heap.size + 1 + 1,0,none⟩ (.slice ad0 n0 cp0)).heap[w.heap.size + 1 + 1]? = some (.cells #[.slice ad0 n0 cp0,.slice none 0 0,.slice none 0 0,.int .i64 0,.int .i64 0,.int .i64 0,.int .i64 0,.slice none 0 0,.slice none 0 0,.slice none 0 0,.slice none 0 0,.slice none 0 0] 47) := (setCell_at B2 _ _)
 have L2 : Lo w.heap.size w (x0.setCell ⟨w.heap.size + 1 + 1,0,none⟩ (.slice ad0 n0 cp0)) := (Lo.setCell L (by omega))
 have Z2 : w.heap.size + 3 ≤ (x0.setCell ⟨w.heap.size + 1 + 1,0,none⟩ (.slice ad0 n0 cp0)).heap.size := by simp only [setCell_size]; exact Z
 have P02 : Q 0 (.slice ad0 n0 cp0) lo0 hi0 (x0.setCell ⟨w.heap.size + 1 + 1,0,none⟩ (.slice ad0 n0 cp0)) := hP _ _ _ _ _ _ p0 u0 (fun c c1 c2 => by rw [setCell_block _ _ _ _ _ (by omega)]) (by simp only [setCell_size]; exact Nat.le_refl _)
 have U02 : hi0 ≤ (x0.setCell ⟨w.heap.size + 1 + 1,0,none⟩ (.slice ad0 n0 cp0)).heap.size := by simp only [setCell_size]; exact u0
 clear B0 B1 B2 L Z p0 u0 g0 g1 g2 g3 g4 g5 g6 g7 g8 g9 g10 g11 k0 k1 k2 k3 k4 k5 k6 k7 k8 k9 k10 k11 f2
 generalize (x0.setCell ⟨w.heap.size + 1 + 1,0,none⟩ (.slice ad0 n0 cp0)) = y1 at *
 have B0 := D0
 clear D0
 have B1 := D1
 clear D1
 have B2 := D2
 clear D2
 have L := L2
 clear L2
 have Z := Z2
 clear Z2
 have p0 := P02
 clear P02
 have u0 := U02
 clear U02
 refine (h1 y1 L).mono ?_
 rintro e x1 ⟨ad1,n1,cp1,rfl,hx,p1⟩
 have hxs := hx.size
 replace B0 := (hx.block (w.heap.size) (by omega)).trans B0
 replace B1 := (hx.block (w.heap.size + 1) (by omega)).trans B1
 replace B2 := (hx.block (w.heap.size + 1 + 1) (by omega)).trans B2
 obtain ⟨lo1,hlo1⟩ : ∃ l,l = y1.heap.size := ⟨_,rfl⟩
 obtain ⟨hi1,hhi1⟩ : ∃ l,l = x1.heap.size := ⟨_,rfl⟩
 rw [← hlo1,← hhi1] at p1
 have i1 : lo1 ≤ hi1 ∧ hi0 ≤ lo1 := by omega
 replace p0 := hP _ _ _ _ _ _ p0 u0 (fun c c1 c2 => hx.block c (by omega)) hx.size
 replace u0 : hi0 ≤ x1.heap.size := by omega
 have u1 : hi1 ≤ x1.heap.size := by omega
 replace L := L.trans (hx.mono (by omega : w.heap.size ≤ y1.heap.size))
 replace Z : w.heap.size + 3 ≤ x1.heap.size := by omega
 clear hx hxs hlo1 hhi1
 have g0 : x1.cell? ⟨w.heap.size,0,none⟩ = some (v0) := by simp [World.cell?,B0]
 have k0 : x1.cell? ⟨w.heap.size + 1 + 1,0,none⟩ = some (.slice ad0 n0 cp0) := by simp [World.cell?,B2]
 have g1 : x1.cell? ⟨w.heap.size,1,none⟩ = some (v1) := by simp [World.cell?,B0]
 have k1 : x1.cell? ⟨w.heap.size + 1 + 1,1,none⟩ = some (.slice none 0 0) := by simp [World.cell?,B2]
 have g2 : x1.cell? ⟨w.heap.size,2,none⟩ = some (v2) := by simp [World.cell?,B0]
 have k2 : x1.cell? ⟨w.heap.size + 1 + 1,2,none⟩ = some (.slice none 0 0) := by simp [World.cell?,B2]
 have g3 : x1.cell? ⟨w.heap.size,3,none⟩ = some (.int .i64 v3) := by simp [World.cell?,B0]
 have k3 : x1.cell? ⟨w.heap.size + 1 + 1,3,none⟩ = some (.int .i64 0) := by simp [World.cell?,B2]
 have g4 : x1.cell? ⟨w.heap.size,4,none⟩ = some (.int .i64 v4) := by simp [World.cell?,B0]
 have k4 : x1.cell? ⟨w.heap.size + 1 + 1,4,none⟩ = some (.int .i64 0) := by simp [World.cell?,B2]
 have g5 : x1.cell? ⟨w.heap.size,5,none⟩ = some (.int .i64 v5) := by simp [World.cell?,B0]
 have k5 : x1.cell? ⟨w.heap.size + 1 + 1,5,none⟩ = some (.int .i64 0) := by simp [World.cell?,B2]
 have g6 : x1.cell? ⟨w.heap.size,6,none⟩ = some (.int .i64 v6) := by simp [World.cell?,B0]
 have k6 : x1.cell? ⟨w.heap.size + 1 + 1,6,none⟩ = some (.int .i64 0) := by simp [World.cell?,B2]
 have g7 : x1.cell? ⟨w.heap.size,7,none⟩ = some (v7) := by simp [World.cell?,B0]
 have k7 : x1.cell? ⟨w.heap.size + 1 + 1,7,none⟩ = some (.slice none 0 0) := by simp [World.cell?,B2]
 have g8 : x1.cell? ⟨w.heap.size,8,none⟩ = some (v8) := by simp [World.cell?,B0]
 have k8 : x1.cell? ⟨w.heap.size + 1 + 1,8,none⟩ = some (.slice none 0 0) := by simp [World.cell?,B2]
 have g9 : x1.cell? ⟨w.heap.size,9,none⟩ = some (v9) := by simp [World.cell?,B0]
 have k9 : x1.cell? ⟨w.heap.size + 1 + 1,9,none⟩ = some (.slice none 0 0) := by simp [World.cell?,B2]
 have g10 : x1.cell? ⟨w.heap.size,10,none⟩ = some (v10) := by simp [World.cell?,B0]
 have k10 : x1.cell? ⟨w.heap.size + 1 + 1,10,none⟩ = some (.slice none 0 0) := by simp [World.cell?,B2]
 have g11 : x1.cell? ⟨w.heap.size,11,none⟩ = some (v11) := by simp [World.cell?,B0]
 have k11 : x1.cell? ⟨w.heap.size + 1 + 1,11,none⟩ = some (.slice none 0 0) := by simp [World.cell?,B2]
 have f2 : ∀ j,x1.frozen? ⟨w.heap.size + 1 + 1,j,none⟩ = false := fun j => by simp [World.frozen?,B2]
 go_wp2_with (fail)
 go_at_call 25
 have D0 : (x1.setCell ⟨w.heap.size + 1 + 1,1,none⟩ (.slice ad1 n1 cp1)).heap[w.heap.size]? = some (.cells #[v0,v1,v2,.int .i64 v3,.int .i64 v4,.int .i64 v5,.int .i64 v6,v7,v8,v9,v10,v11] 33) := by rw [setCell_block _ _ _ _ _ (by omega)]; exact B0
 have D1 : (x1.setCell ⟨w.heap.size + 1 + 1,1,none⟩ (.slice ad1 n1 cp1)).heap[w.heap.size + 1]? = some (.cells #[.slice none 0 0,.slice none 0 0,.slice none 0 0,.int .i64 0,.int .i64 0,.int .i64 0,.int .i64 0,.slice none 0 0,.slice none 0 0,.slice none 0 0,.slice none 0 0,.slice none 0 0] 47) := by rw [setCell_block _ _ _ _ _ (by omega)]; exact B1
 have D2 : (x1.setCell ⟨w.heap.size + 1 + 1,1,none⟩ (.slice ad1 n1 cp1)).heap[w.heap.size + 1 + 1]? = some (.cells #[.slice ad0 n0 cp0,.slice ad1 n1 cp1,.slice none 0 0,.int .i64 0,.int .i64 0,.int .i64 0,.int .i64 0,.slice none 0 0,.slice none 0 0,.slice none 0 0,.slice none 0 0,.slice none 0 0] 47) := (setCell_at B2 _ _)
 have L2 : Lo w.heap.size w (x1.setCell ⟨w.heap.size + 1 + 1,1,none⟩ (.slice ad1 n1 cp1)) := (Lo.setCell L (by omega))
 have Z2 : w.heap.size + 3 ≤ (x1.setCell ⟨w.heap.size + 1 + 1,1,none⟩ (.slice ad1 n1 cp1)).heap.size := by simp only [setCell_size]; exact Z
 have P02 : Q 0 (.slice ad0 n0 cp0) lo0 hi0 (x1.setCell ⟨w.heap.size + 1 + 1,1,none⟩ (.slice ad1 n1 cp1)) := hP _ _ _ _ _ _ p0 u0 (fun c c1 c2 => by rw [setCell_block _ _ _ _ _ (by omega)]) (by simp only [setCell_size]; exact Nat.le_refl _)
 have U02 : hi0 ≤ (x1.setCell ⟨w.heap.size + 1 + 1,1,none⟩ (.slice ad1 n1 cp1)).heap.size := by simp only [setCell_size]; exact u0
 have P12 : Q 1 (.slice ad1 n1 cp1) lo1 hi1 (x1.setCell ⟨w.heap.size + 1 + 1,1,none⟩ (.slice ad1 n1 cp1)) := hP _ _ _ _ _ _ p1 u1 (fun c c1 c2 => by rw [setCell_block _ _ _ _ _ (by omega)]) (by simp only [setCell_size]; exact Nat.le_refl _)
 have U12 : hi1 ≤ (x1.setCell ⟨w.heap.size + 1 + 1,1,none⟩ (.slice ad1 n1 cp1)).heap.size := by simp only [setCell_size]; exact u1
 clear B0 B1 B2 L Z p0 u0 p1 u1 g0 g1 g2 g3 g4 g5 g6 g7 g8 g9 g10 g11 k0 k1 k2 k3 k4 k5 k6 k7 k8 k9 k10 k11 f2
 generalize (x1.setCell ⟨w.heap.size + 1 + 1,1,none⟩ (.slice ad1 n1 cp1)) = y2 at *
 have B0 := D0
 clear D0
 have B1 := D1
 clear D1
 have B2 := D2
 clear D2
 have L := L2
 clear L2
 have Z := Z2
 clear Z2
 have p0 := P02
 clear P02
 have p1 := P12
 clear P12
 have u0 := U02
 clear U02
 have u1 := U12
 clear U12
 refine (h2 y2 L).mono ?_
 rintro e x2 ⟨ad2,n2,cp2,rfl,hx,p2⟩
 have hxs := hx.size
 replace B0 := (hx.block (w.heap.size) (by omega)).trans B0
 replace B1 := (hx.block (w.heap.size + 1) (by omega)).trans B1
 replace B2 := (hx.block (w.heap.size + 1 + 1) (by omega)).trans B2
 obtain ⟨lo2,hlo2⟩ : ∃ l,l = y2.heap.size := ⟨_,rfl⟩
 obtain ⟨hi2,hhi2⟩ : ∃ l,l = x2.heap.size := ⟨_,rfl⟩
 rw [← hlo2,← hhi2] at p2
 have i2 : lo2 ≤ hi2 ∧ hi1 ≤ lo2 := by omega
 replace p0 := hP _ _ _ _ _ _ p0 u0 (fun c c1 c2 => hx.block c (by omega)) hx.size
 replace u0 : hi0 ≤ x2.heap.size := by omega
 replace p1 := hP _ _ _ _ _ _ p1 u1 (fun c c1 c2 => hx.block c (by omega)) hx.size
 replace u1 : hi1 ≤ x2.heap.size := by omega
 have u2 : hi2 ≤ x2.heap.size := by omega
 replace L := L.trans (hx.mono (by omega : w.heap.size ≤ y2.heap.size))
 replace Z : w.heap.size + 3 ≤ x2.heap.size := by omega
 clear hx hxs hlo2 hhi2
 have g0 : x2.cell? ⟨w.heap.size,0,none⟩ = some (v0) := by simp [World.cell?,B0]
 have k0 : x2.cell? ⟨w.heap.size + 1 + 1,0,none⟩ = some (.slice ad0 n0 cp0) := by simp [World.cell?,B2]
 have g1 : x2.cell? ⟨w.heap.size,1,none⟩ = some (v1) := by simp [World.cell?,B0]
 have k1 : x2.cell? ⟨w.heap.size + 1 + 1,1,none⟩ = some (.slice ad1 n1 cp1) := by simp [World.cell?,B2]
 have g2 : x2.cell? ⟨w.heap.size,2,none⟩ = some (v2) := by simp [World.cell?,B0]
 have k2 : x2.cell? ⟨w.heap.size + 1 + 1,2,none⟩ = some (.slice none 0 0) := by simp [World.cell?,B2]
 have g3 : x2.cell? ⟨w.heap.size,3,none⟩ = some (.int .i64 v3) := by simp [World.cell?,B0]
 have k3 : x2.cell? ⟨w.heap.size + 1 + 1,3,none⟩ = some (.int .i64 0) := by simp [World.cell?,B2]
 have g4 : x2.cell? ⟨w.heap.size,4,none⟩ = some (.int .i64 v4) := by simp [World.cell?,B0]
 have k4 : x2.cell? ⟨w.heap.size + 1 + 1,4,none⟩ = some (.int .i64 0) := by simp [World.cell?,B2]
 have g5 : x2.cell? ⟨w.heap.size,5,none⟩ = some (.int .i64 v5) := by simp [World.cell?,B0]
 have k5 : x2.cell? ⟨w.heap.size + 1 + 1,5,none⟩ = some (.int .i64 0) := by simp [World.cell?,B2]
 have g6 : x2.cell? ⟨w.heap.size,6,none⟩ = some (.int .i64 v6) := by simp [World.cell?,B0]
 have k6 : x2.cell? ⟨w.heap.size + 1 + 1,6,none⟩ = some (.int .i64 0) := by simp [World.cell?,B2]
 have g7 : x2.cell? ⟨w.heap.size,7,none⟩ = some (v7) := by simp [World.cell?,B0]
 have k7 : x2.cell? ⟨w.heap.size + 1 + 1,7,none⟩ = some (.slice none 0 0) := by simp [World.cell?,B2]
 have g8 : x2.cell? ⟨w.heap.size,8,none⟩ = some (v8) := by simp [World.cell?,B0]
 have k8 : x2.cell? ⟨w.heap.size + 1 + 1,8,none⟩ = some (.slice none 0 0) := by simp [World.cell?,B2]
 have g9 : x2.cell? ⟨w.heap.size,9,none⟩ = some (v9) := by simp [World.cell?,B0]
 have k9 : x2.cell? ⟨w.heap.size + 1 + 1,9,none⟩ = some (.slice none 0 0) := by simp [World.cell?,B2]
 have g10 : x2.cell? ⟨w.heap.size,10,none⟩ = some (v10) := by simp [World.cell?,B0]
 have k10 : x2.cell? ⟨w.heap.size + 1 + 1,10,none⟩ = some (.slice none 0 0) := by simp [World.cell?,B2]
 have g11 : x2.cell? ⟨w.heap.size,11,none⟩ = some (v11) := by simp [World.cell?,B0]
 have k11 : x2.cell? ⟨w.heap.size + 1 + 1,11,none⟩ = some (.slice none 0 0) := by simp [World.cell?,B2]
 have f2 : ∀ j,x2.frozen? ⟨w.heap.size + 1 + 1,j,none⟩ = false := fun j => by simp [World.frozen?,B2]
 go_wp2_with (fail)
 go_at_call 26
 have D0 : (x2.setCell ⟨w.heap.size + 1 + 1,2,none⟩ (.slice ad2 n2 cp2)).heap[w.heap.size]? = some (.cells #[v0,v1,v2,.int .i64 v3,.int .i64 v4,.int .i64 v5,.int .i64 v6,v7,v8,v9,v10,v11] 33) := by rw [setCell_block _ _ _ _ _ (by omega)]; exact B0
 have D1 : (x2.setCell ⟨w.heap.size + 1 + 1,2,none⟩ (.slice ad2 n2 cp2)).heap[w.heap.size + 1]? = some (.cells #[.slice none 0 0,.slice none 0 0,.slice none 0 0,.int .i64 0,.int .i64 0,.int .i64 0,.int .i64 0,.slice none 0 0,.slice none 0 0,.slice none 0 0,.slice none 0 0,.slice none 0 0] 47) := by rw [setCell_block _ _ _ _ _ (by omega)]; exact B1
 have D2 : (x2.setCell ⟨w.heap.size + 1 + 1,2,none⟩ (.slice ad2 n2 cp2)).heap[w.heap.size + 1 + 1]? = some (.cells #[.slice ad0 n0 cp0,.slice ad1 n1 cp1,.slice ad2 n2 cp2,.int .i64 0,.int .i64 0,.int .i64 0,.int .i64 0,.slice none 0 0,.slice none 0 0,.slice none 0 0,.slice none 0 0,.slice none 0 0] 47) := (setCell_at B2 _ _)
 have L2 : Lo w.heap.size w (x2.setCell ⟨w.heap.size + 1 + 1,2,none⟩ (.slice ad2 n2 cp2)) := (Lo.setCell L (by omega))
 have Z2 : w.heap.size + 3 ≤ (x2.setCell ⟨w.heap.size + 1 + 1,2,none⟩ (.slice ad2 n2 cp2)).heap.size := by simp only [setCell_size]; exact Z
 have P02 : Q 0 (.slice ad0 n0 cp0) lo0 hi0 (x2.setCell ⟨w.heap.size + 1 + 1,2,none⟩ (.slice ad2 n2 cp2)) := hP _ _ _ _ _ _ p0 u0 (fun c c1 c2 => by rw [setCell_block _ _ _ _ _ (by omega)]) (by simp only [setCell_size]; exact Nat.le_refl _)
 have U02 : hi0 ≤ (x2.setCell ⟨w.heap.size + 1 + 1,2,none⟩ (.slice ad2 n2 cp2)).heap.size := by simp only [setCell_size]; exact u0
 have P12 : Q 1 (.slice ad1 n1 cp1) lo1 hi1 (x2.setCell ⟨w.heap.size + 1 + 1,2,none⟩ (.slice ad2 n2 cp2)) := hP _ _ _ _ _ _ p1 u1 (fun c c1 c2 => by rw [setCell_block _ _ _ _ _ (by omega)]) (by simp only [setCell_size]; exact Nat.le_refl _)
 have U12 : hi1 ≤ (x2.setCell ⟨w.heap.size + 1 + 1,2,none⟩ (.slice ad2 n2 cp2)).heap.size := by simp only [setCell_size]; exact u1
 have P22 : Q 2 (.slice ad2 n2 cp2) lo2 hi2 (x2.setCell ⟨w.heap.size + 1 + 1,2,none⟩ (.slice ad2 n2 cp2)) := hP _ _ _ _ _ _ p2 u2 (fun c c1 c2 => by rw [setCell_block _ _ _ _ _ (by omega)]) (by simp only [setCell_size]; exact Nat.le_refl _)
 have U22 : hi2 ≤ (x2.setCell ⟨w.heap.size + 1 + 1,2,none⟩ (.slice ad2 n2 cp2)).heap.size := by simp only [setCell_size]; exact u2
 clear B0 B1 B2 L Z p0 u0 p1 u1 p2 u2 g0 g1 g2 g3 g4 g5 g6 g7 g8 g9 g10 g11 k0 k1 k2 k3 k4 k5 k6 k7 k8 k9 k10 k11 f2
 generalize (x2.setCell ⟨w.heap.size + 1 + 1,2,none⟩ (.slice ad2 n2 cp2)) = y3 at *
 have B0 := D0
 clear D0
 have B1 := D1
 clear D1
 have B2 := D2
 clear D2
 have L := L2
 clear L2
 have Z := Z2
 clear Z2
 have p0 := P02
 clear P02
 have p1 := P12
 clear P12
 have p2 := P22
 clear P22
 have u0 := U02
 clear U02
 have u1 := U12
 clear U12
 have u2 := U22
 clear U22
 refine (h3 y3 L).mono ?_
 rintro e x3 ⟨rfl,hx⟩
 have hxs := hx.size
 replace B0 := (hx.block (w.heap.size) (by omega)).trans B0
 replace B1 := (hx.block (w.heap.size + 1) (by omega)).trans B1
 replace B2 := (hx.block (w.heap.size + 1 + 1) (by omega)).trans B2
 replace p0 := hP _ _ _ _ _ _ p0 u0 (fun c c1 c2 => hx.block c (by omega)) hx.size
 replace u0 : hi0 ≤ x3.heap.size := by omega
 replace p1 := hP _ _ _ _ _ _ p1 u1 (fun c c1 c2 => hx.block c (by omega)) hx.size
 replace u1 : hi1 ≤ x3.heap.size := by omega
 replace p2 := hP _ _ _ _ _ _ p2 u2 (fun c c1 c2 => hx.block c (by omega)) hx.size
 replace u2 : hi2 ≤ x3.heap.size := by omega
 replace L := L.trans (hx.mono (by omega : w.heap.size ≤ y3.heap.size))
 replace Z : w.heap.size + 3 ≤ x3.heap.size := by omega
 clear hx hxs
 have g0 : x3.cell? ⟨w.heap.size,0,none⟩ = some (v0) := by simp [World.cell?,B0]
 have k0 : x3.cell? ⟨w.heap.size + 1 + 1,0,none⟩ = some (.slice ad0 n0 cp0) := by simp [World.cell?,B2]
 have g1 : x3.cell? ⟨w.heap.size,1,none⟩ = some (v1) := by simp [World.cell?,B0]
 have k1 : x3.cell? ⟨w.heap.size + 1 + 1,1,none⟩ = some (.slice ad1 n1 cp1) := by simp [World.cell?,B2]
 have g2 : x3.cell? ⟨w.heap.size,2,none⟩ = some (v2) := by simp [World.cell?,B0]
 have k2 : x3.cell? ⟨w.heap.size + 1 + 1,2,none⟩ = some (.slice ad2 n2 cp2) := by simp [World.cell?,B2]
 have g3 : x3.cell? ⟨w.heap.size,3,none⟩ = some (.int .i64 v3) := by simp [World.cell?,B0]
 have k3 : x3.cell? ⟨w.heap.size + 1 + 1,3,none⟩ = some (.int .i64 0) := by simp [World.cell?,B2]
 have g4 : x3.cell? ⟨w.heap.size,4,none⟩ = some (.int .i64 v4) := by simp [World.cell?,B0]
 have k4 : x3.cell? ⟨w.heap.size + 1 + 1,4,none⟩ = some (.int .i64 0) := by simp [World.cell?,B2]
 have g5 : x3.cell? ⟨w.heap.size,5,none⟩ = some (.int .i64 v5) := by simp [World.cell?,B0]
 have k5 : x3.cell? ⟨w.heap.size + 1 + 1,5,none⟩ = some (.int .i64 0) := by simp [World.cell?,B2]
 have g6 : x3.cell? ⟨w.heap.size,6,none⟩ = some (.int .i64 v6) := by simp [World.cell?,B0]
 have k6 : x3.cell? ⟨w.heap.size + 1 + 1,6,none⟩ = some (.int .i64 0) := by simp [World.cell?,B2]
 have g7 : x3.cell? ⟨w.heap.size,7,none⟩ = some (v7) := by simp [World.cell?,B0]
 have k7 : x3.cell? ⟨w.heap.size + 1 + 1,7,none⟩ = some (.slice none 0 0) := by simp [World.cell?,B2]
 have g8 : x3.cell? ⟨w.heap.size,8,none⟩ = some (v8) := by simp [World.cell?,B0]
 have k8 : x3.cell? ⟨w.heap.size + 1 + 1,8,none⟩ = some (.slice none 0 0) := by simp [World.cell?,B2]
 have g9 : x3.cell? ⟨w.heap.size,9,none⟩ = some (v9) := by simp [World.cell?,B0]
 have k9 : x3.cell? ⟨w.heap.size + 1 + 1,9,none⟩ = some (.slice none 0 0) := by simp [World.cell?,B2]
 have g10 : x3.cell? ⟨w.heap.size,10,none⟩ = some (v10) := by simp [World.cell?,B0]
 have k10 : x3.cell? ⟨w.heap.size + 1 + 1,10,none⟩ = some (.slice none 0 0) := by simp [World.cell?,B2]
 have g11 : x3.cell? ⟨w.heap.size,11,none⟩ = some (v11) := by simp [World.cell?,B0]
 have k11 : x3.cell? ⟨w.heap.size + 1 + 1,11,none⟩ = some (.slice none 0 0) := by simp [World.cell?,B2]
 have f2 : ∀ j,x3.frozen? ⟨w.heap.size + 1 + 1,j,none⟩ = false := fun j => by simp [World.frozen?,B2]
 go_wp2_with (fail)
 go_at_call 27
 have D0 : ((((x3.setCell ⟨w.heap.size + 1 + 1,3,none⟩ (.int .i64 v3)).setCell ⟨w.heap.size + 1 + 1,4,none⟩ (.int .i64 v4)).setCell ⟨w.heap.size + 1 + 1,5,none⟩ (.int .i64 v5)).setCell ⟨w.heap.size + 1 + 1,6,none⟩ (.int .i64 v6)).heap[w.heap.size]? = some (.cells #[v0,v1,v2,.int .i64 v3,.int .i64 v4,.int .i64 v5,.int .i64 v6,v7,v8,v9,v10,v11] 33) := by rw [setCell_block _ _ _ _ _ (by omega),setCell_block _ _ _ _ _ (by omega),setCell_block _ _ _ _ _ (by omega),setCell_block _ _ _ _ _ (by omega)]; exact B0
 have D1 : ((((x3.setCell ⟨w.heap.size + 1 + 1,3,none⟩ (.int .i64 v3)).setCell ⟨w.heap.size + 1 + 1,4,none⟩ (.int .i64 v4)).setCell ⟨w.heap.size + 1 + 1,5,none⟩ (.int .i64 v5)).setCell ⟨w.heap.size + 1 + 1,6,none⟩ (.int .i64 v6)).heap[w.heap.size + 1]? = some (.cells #[.slice none 0 0,.slice none 0 0,.slice none 0 0,.int .i64 0,.int .i64 0,.int .i64 0,.int .i64 0,.slice none 0 0,.slice none 0 0,.slice none 0 0,.slice none 0 0,.slice none 0 0] 47) := by rw [setCell_block _ _ _ _ _ (by omega),setCell_block _ _ _ _ _ (by omega),setCell_block _ _ _ _ _ (by omega),setCell_block _ _ _ _ _ (by omega)]; exact B1
 have D2 : ((((x3.setCell ⟨w.heap.size + 1 + 1,3,none⟩ (.int .i64 v3)).setCell ⟨w.heap.size + 1 + 1,4,none⟩ (.int .i64 v4)).setCell ⟨w.heap.size + 1 + 1,5,none⟩ (.int .i64 v5)).setCell ⟨w.heap.size + 1 + 1,6,none⟩ (.int .i64 v6)).heap[w.heap.size + 1 + 1]? = some (.cells #[.slice ad0 n0 cp0,.slice ad1 n1 cp1,.slice ad2 n2 cp2,.int .i64 v3,.int .i64 v4,.int .i64 v5,.int .i64 v6,.slice none 0 0,.slice none 0 0,.slice none 0 0,.slice none 0 0,.slice none 0 0] 47) := (setCell_at (setCell_at (setCell_at (setCell_at B2 _ _) _ _) _ _) _ _)
 have L2 : Lo w.heap.size w ((((x3.setCell ⟨w.heap.size + 1 + 1,3,none⟩ (.int .i64 v3)).setCell ⟨w.heap.size + 1 + 1,4,none⟩ (.int .i64 v4)).setCell ⟨w.heap.size + 1 + 1,5,none⟩ (.int .i64 v5)).setCell ⟨w.heap.size + 1 + 1,6,none⟩ (.int .i64 v6)) := (Lo.setCell (Lo.setCell (Lo.setCell (Lo.setCell L (by omega)) (by omega)) (by omega)) (by omega))
 have Z2 : w.heap.size + 3 ≤ ((((x3.setCell ⟨w.heap.size + 1 + 1,3,none⟩ (.int .i64 v3)).setCell ⟨w.heap.size + 1 + 1,4,none⟩ (.int .i64 v4)).setCell ⟨w.heap.size + 1 + 1,5,none⟩ (.int .i64 v5)).setCell ⟨w.heap.size + 1 + 1,6,none⟩ (.int .i64 v6)).heap.size := by simp only [setCell_size]; exact Z
 have P02 : Q 0 (.slice ad0 n0 cp0) lo0 hi0 ((((x3.setCell ⟨w.heap.size + 1 + 1,3,none⟩ (.int .i64 v3)).setCell ⟨w.heap.size + 1 + 1,4,none⟩ (.int .i64 v4)).setCell ⟨w.heap.size + 1 + 1,5,none⟩ (.int .i64 v5)).setCell ⟨w.heap.size + 1 + 1,6,none⟩ (.int .i64 v6)) := hP _ _ _ _ _ _ p0 u0 (fun c c1 c2 => by rw [setCell_block _ _ _ _ _ (by omega),setCell_block _ _ _ _ _ (by omega),setCell_block _ _ _ _ _ (by omega),setCell_block _ _ _ _ _ (by omega)]) (by simp only [setCell_size]; exact Nat.le_refl _)
 have U02 : hi0 ≤ ((((x3.setCell ⟨w.heap.size + 1 + 1,3,none⟩ (.int .i64 v3)).setCell ⟨w.heap.size + 1 + 1,4,none⟩ (.int .i64 v4)).setCell ⟨w.heap.size + 1 + 1,5,none⟩ (.int .i64 v5)).setCell ⟨w.heap.size + 1 + 1,6,none⟩ (.int .i64 v6)).heap.size := by simp only [setCell_size]; exact u0
 have P12 : Q 1 (.slice ad1 n1 cp1) lo1 hi1 ((((x3.setCell ⟨w.heap.size + 1 + 1,3,none⟩ (.int .i64 v3)).setCell ⟨w.heap.size + 1 + 1,4,none⟩ (.int .i64 v4)).setCell ⟨w.heap.size + 1 + 1,5,none⟩ (.int .i64 v5)).setCell ⟨w.heap.size + 1 + 1,6,none⟩ (.int .i64 v6)) := hP _ _ _ _ _ _ p1 u1 (fun c c1 c2 => by rw [setCell_block _ _ _ _ _ (by omega),setCell_block _ _ _ _ _ (by omega),setCell_block _ _ _ _ _ (by omega),setCell_block _ _ _ _ _ (by omega)]) (by simp only [setCell_size]; exact Nat.le_refl _)
 have U12 : hi1 ≤ ((((x3.setCell ⟨w.heap.size + 1 + 1,3,none⟩ (.int .i64 v3)).setCell ⟨w.heap.size + 1 + 1,4,none⟩ (.int .i64 v4)).setCell ⟨w.heap.size + 1 + 1,5,none⟩ (.int .i64 v5)).setCell ⟨w.heap.size + 1 + 1,6,none⟩ (.int .i64 v6)).heap.size := by simp only [setCell_size]; exact u1
 have P22 : Q 2 (.slice ad2 n2 cp2) lo2 hi2 ((((x3.setCell ⟨w.heap.size + 1 + 1,3,none⟩ (.int .i64 v3)).setCell ⟨w.heap.size + 1 + 1,4,none⟩ (.int .i64 v4)).setCell ⟨w.heap.size + 1 + 1,5,none⟩ (.int .i64 v5)).setCell ⟨w.heap.size + 1 + 1,6,none⟩ (.int .i64 v6)) := hP _ _ _ _ _ _ p2 u2 (fun c c1 c2 => by rw [setCell_block _ _ _ _ _ (by omega),setCell_block _ _ _ _ _ (by omega),setCell_block _ _ _ _ _ (by omega),setCell_block _ _ _ _ _ (by omega)]) (by simp only [setCell_size]; exact Nat.le_refl _)
 have U22 : hi2 ≤ ((((x3.setCell ⟨w.heap.size + 1 + 1,3,none⟩ (.int .i64 v3)).setCell ⟨w.heap.size + 1 + 1,4,none⟩ (.int .i64 v4)).setCell ⟨w.heap.size + 1 + 1,5,none⟩ (.int .i64 v5)).setCell ⟨w.heap.size + 1 + 1,6,none⟩ (.int .i64 v6)).heap.size := by simp only [setCell_size]; exact u2
 clear B0 B1 B2 L Z p0 u0 p1 u1 p2 u2 g0 g1 g2 g3 g4 g5 g6 g7 g8 g9 g10 g11 k0 k1 k2 k3 k4 k5 k6 k7 k8 k9 k10 k11 f2
 generalize ((((x3.setCell ⟨w.heap.size + 1 + 1,3,none⟩ (.int .i64 v3)).setCell ⟨w.heap.size + 1 + 1,4,none⟩ (.int .i64 v4)).setCell ⟨w.heap.size + 1 + 1,5,none⟩ (.int .i64 v5)).setCell ⟨w.heap.size + 1 + 1,6,none⟩ (.int .i64 v6)) = y7 at *
 have B0 := D0
 clear D0
 have B1 := D1
 clear D1
 have B2 := D2
 clear D2
 have L := L2
 clear L2
 have Z := Z2
 clear Z2
 have p0 := P02
 clear P02
 have p1 := P12
 clear P12
 have p2 := P22
 clear P22
 have u0 := U02
 clear U02
 have u1 := U12
 clear U12
 have u2 := U22
 clear U22
 refine (h7 y7 L).mono ?_
 rintro e x7 ⟨ad7,n7,cp7,rfl,hx,p7⟩
 have hxs := hx.size
 replace B0 := (hx.block (w.heap.size) (by omega)).trans B0
 replace B1 := (hx.block (w.heap.size + 1) (by omega)).trans B1
 replace B2 := (hx.block (w.heap.size + 1 + 1) (by omega)).trans B2
 obtain ⟨lo7,hlo7⟩ : ∃ l,l = y7.heap.size := ⟨_,rfl⟩
 obtain ⟨hi7,hhi7⟩ : ∃ l,l = x7.heap.size := ⟨_,rfl⟩
 rw [← hlo7,← hhi7] at p7
 have i7 : lo7 ≤ hi7 ∧ hi2 ≤ lo7 := by omega
 replace p0 := hP _ _ _ _ _ _ p0 u0 (fun c c1 c2 => hx.block c (by omega)) hx.size
 replace u0 : hi0 ≤ x7.heap.size := by omega
 replace p1 := hP _ _ _ _ _ _ p1 u1 (fun c c1 c2 => hx.block c (by omega)) hx.size
 replace u1 : hi1 ≤ x7.heap.size := by omega
 replace p2 := hP _ _ _ _ _ _ p2 u2 (fun c c1 c2 => hx.block c (by omega)) hx.size
 replace u2 : hi2 ≤ x7.heap.size := by omega
 have u7 : hi7 ≤ x7.heap.size := by omega
 replace L := L.trans (hx.mono (by omega : w.heap.size ≤ y7.heap.size))
 replace Z : w.heap.size + 3 ≤ x7.heap.size := by omega
 clear hx hxs hlo7 hhi7
 have g0 : x7.cell? ⟨w.heap.size,0,none⟩ = some (v0) := by simp [World.cell?,B0]
 have k0 : x7.cell? ⟨w.heap.size + 1 + 1,0,none⟩ = some (.slice ad0 n0 cp0) := by simp [World.cell?,B2]
 have g1 : x7.cell? ⟨w.heap.size,1,none⟩ = some (v1) := by simp [World.cell?,B0]
 have k1 : x7.cell? ⟨w.heap.size + 1 + 1,1,none⟩ = some (.slice ad1 n1 cp1) := by simp [World.cell?,B2]
 have g2 : x7.cell? ⟨w.heap.size,2,none⟩ = some (v2) := by simp [World.cell?,B0]
 have k2 : x7.cell? ⟨w.heap.size + 1 + 1,2,none⟩ = some (.slice ad2 n2 cp2) := by simp [World.cell?,B2]
 have g3 : x7.cell? ⟨w.heap.size,3,none⟩ = some (.int .i64 v3) := by simp [World.cell?,B0]
 have k3 : x7.cell? ⟨w.heap.size + 1 + 1,3,none⟩ = some (.int .i64 v3) := by simp [World.cell?,B2]
 have g4 : x7.cell? ⟨w.heap.size,4,none⟩ = some (.int .i64 v4) := by simp [World.cell?,B0]
 have k4 : x7.cell? ⟨w.heap.size + 1 + 1,4,none⟩ = some (.int .i64 v4) := by simp [World.cell?,B2]
 have g5 : x7.cell? ⟨w.heap.size,5,none⟩ = some (.int .i64 v5) := by simp [World.cell?,B0]
 have k5 : x7.cell? ⟨w.heap.size + 1 + 1,5,none⟩ = some (.int .i64 v5) := by simp [World.cell?,B2]
 have g6 : x7.cell? ⟨w.heap.size,6,none⟩ = some (.int .i64 v6) := by simp [World.cell?,B0]
 have k6 : x7.cell? ⟨w.heap.size + 1 + 1,6,none⟩ = some (.int .i64 v6) := by simp [World.cell?,B2]
 have g7 : x7.cell? ⟨w.heap.size,7,none⟩ = some (v7) := by simp [World.cell?,B0]
 have k7 : x7.cell? ⟨w.heap.size + 1 + 1,7,none⟩ = some (.slice none 0 0) := by simp [World.cell?,B2]
 have g8 : x7.cell? ⟨w.heap.size,8,none⟩ = some (v8) := by simp [World.cell?,B0]
 have k8 : x7.cell? ⟨w.heap.size + 1 + 1,8,none⟩ = some (.slice none 0 0) := by simp [World.cell?,B2]
 have g9 : x7.cell? ⟨w.heap.size,9,none⟩ = some (v9) := by simp [World.cell?,B0]
 have k9 : x7.cell? ⟨w.heap.size + 1 + 1,9,none⟩ = some (.slice none 0 0) := by simp [World.cell?,B2]
 have g10 : x7.cell? ⟨w.heap.size,10,none⟩ = some (v10) := by simp [World.cell?,B0]
 have k10 : x7.cell? ⟨w.heap.size + 1 + 1,10,none⟩ = some (.slice none 0 0) := by simp [World.cell?,B2]
 have g11 : x7.cell? ⟨w.heap.size,11,none⟩ = some (v11) := by simp [World.cell?,B0]
 have k11 : x7.cell? ⟨w.heap.size + 1 + 1,11,none⟩ = some (.slice none 0 0) := by simp [World.cell?,B2]
 have f2 : ∀ j,x7.frozen? ⟨w.heap.size + 1 + 1,j,none⟩ = false := fun j => by simp [World.frozen?,B2]
 go_wp2_with (fail)
 go_at_call 28
 have D0 : (x7.setCell ⟨w.heap.size + 1 + 1,7,none⟩ (.slice ad7 n7 cp7)).heap[w.heap.size]? = some (.cells #[v0,v1,v2,.int .i64 v3,.int .i64 v4,.int .i64 v5,.int .i64 v6,v7,v8,v9,v10,v11] 33) := by rw [setCell_block _ _ _ _ _ (by omega)]; exact B0
 have D1 : (x7.setCell ⟨w.heap.size + 1 + 1,7,none⟩ (.slice ad7 n7 cp7)).heap[w.heap.size + 1]? = some (.cells #[.slice none 0 0,.slice none 0 0,.slice none 0 0,.int .i64 0,.int .i64 0,.int .i64 0,.int .i64 0,.slice none 0 0,.slice none 0 0,.slice none 0 0,.slice none 0 0,.slice none 0 0] 47) := by rw [setCell_block _ _ _ _ _ (by omega)]; exact B1
 have D2 : (x7.setCell ⟨w.heap.size + 1 + 1,7,none⟩ (.slice ad7 n7 cp7)).heap[w.heap.size + 1 + 1]? = some (.cells #[.slice ad0 n0 cp0,.slice ad1 n1 cp1,.slice ad2 n2 cp2,.int .i64 v3,.int .i64 v4,.int .i64 v5,.int .i64 v6,.slice ad7 n7 cp7,.slice none 0 0,.slice none 0 0,.slice none 0 0,.slice none 0 0] 47) := (setCell_at B2 _ _)
 have L2 : Lo w.heap.size w (x7.setCell ⟨w.heap.size + 1 + 1,7,none⟩ (.slice ad7 n7 cp7)) := (Lo.setCell L (by omega))
 have Z2 : w.heap.size + 3 ≤ (x7.setCell ⟨w.heap.size + 1 + 1,7,none⟩ (.slice ad7 n7 cp7)).heap.size := by simp only [setCell_size]; exact Z
 have P02 : Q 0 (.slice ad0 n0 cp0) lo0 hi0 (x7.setCell ⟨w.heap.size + 1 + 1,7,none⟩ (.slice ad7 n7 cp7)) := hP _ _ _ _ _ _ p0 u0 (fun c c1 c2 => by rw [setCell_block _ _ _ _ _ (by omega)]) (by simp only [setCell_size]; exact Nat.le_refl _)
 have U02 : hi0 ≤ (x7.setCell ⟨w.heap.size + 1 + 1,7,none⟩ (.slice ad7 n7 cp7)).heap.size := by simp only [setCell_size]; exact u0
 have P12 : Q 1 (.slice ad1 n1 cp1) lo1 hi1 (x7.setCell ⟨w.heap.size + 1 + 1,7,none⟩ (.slice ad7 n7 cp7)) := hP _ _ _ _ _ _ p1 u1 (fun c c1 c2 => by rw [setCell_block _ _ _ _ _ (by omega)]) (by simp only [setCell_size]; exact Nat.le_refl _)
 have U12 : hi1 ≤ (x7.setCell ⟨w.heap.size + 1 + 1,7,none⟩ (.slice ad7 n7 cp7)).heap.size := by simp only [setCell_size]; exact u1
 have P22 : Q 2 (.slice ad2 n2 cp2) lo2 hi2 (x7.setCell ⟨w.heap.size + 1 + 1,7,none⟩ (.slice ad7 n7 cp7)) := hP _ _ _ _ _ _ p2 u2 (fun c c1 c2 => by rw [setCell_block _ _ _ _ _ (by omega)]) (by simp only [setCell_size]; exact Nat.le_refl _)
 have U22 : hi2 ≤ (x7.setCell ⟨w.heap.size + 1 + 1,7,none⟩ (.slice ad7 n7 cp7)).heap.size := by simp only [setCell_size]; exact u2
 have P72 : Q 7 (.slice ad7 n7 cp7) lo7 hi7 (x7.setCell ⟨w.heap.size + 1 + 1,7,none⟩ (.slice ad7 n7 cp7)) := hP _ _ _ _ _ _ p7 u7 (fun c c1 c2 => by rw [setCell_block _ _ _ _ _ (by omega)]) (by simp only [setCell_size]; exact Nat.le_refl _)
 have U72 : hi7 ≤ (x7.setCell ⟨w.heap.size + 1 + 1,7,none⟩ (.slice ad7 n7 cp7)).heap.size := by simp only [setCell_size]; exact u7
 clear B0 B1 B2 L Z p0 u0 p1 u1 p2 u2 p7 u7 g0 g1 g2 g3 g4 g5 g6 g7 g8 g9 g10 g11 k0 k1 k2 k3 k4 k5 k6 k7 k8 k9 k10 k11 f2
 generalize (x7.setCell ⟨w.heap.size + 1 + 1,7,none⟩ (.slice ad7 n7 cp7)) = y8 at *
 have B0 := D0
 clear D0
 have B1 := D1
 clear D1
 have B2 := D2
 clear D2
 have L := L2
 clear L2
 have Z := Z2
 clear Z2
 have p0 := P02
 clear P02
 have p1 := P12
 clear P12
 have p2 := P22
 clear P22
 have p7 := P72
 clear P72
 have u0 := U02
 clear U02
 have u1 := U12
 clear U12
 have u2 := U22
 clear U22
 have u7 := U72
 clear U72
 refine (h8 y8 L).mono ?_
 rintro e x8 ⟨ad8,n8,cp8,rfl,hx,p8⟩
 have hxs := hx.size
 replace B0 := (hx.block (w.heap.size) (by omega)).trans B0
 replace B1 := (hx.block (w.heap.size + 1) (by omega)).trans B1
 replace B2 := (hx.block (w.heap.size + 1 + 1) (by omega)).trans B2
 obtain ⟨lo8,hlo8⟩ : ∃ l,l = y8.heap.size := ⟨_,rfl⟩
 obtain ⟨hi8,hhi8⟩ : ∃ l,l = x8.heap.size := ⟨_,rfl⟩
 rw [← hlo8,← hhi8] at p8
 have i8 : lo8 ≤ hi8 ∧ hi7 ≤ lo8 := by omega
 replace p0 := hP _ _ _ _ _ _ p0 u0 (fun c c1 c2 => hx.block c (by omega)) hx.size
 replace u0 : hi0 ≤ x8.heap.size := by omega
 replace p1 := hP _ _ _ _ _ _ p1 u1 (fun c c1 c2 => hx.block c (by omega)) hx.size
 replace u1 : hi1 ≤ x8.heap.size := by omega
 replace p2 := hP _ _ _ _ _ _ p2 u2 (fun c c1 c2 => hx.block c (by omega)) hx.size
 replace u2 : hi2 ≤ x8.heap.size := by omega
 replace p7 := hP _ _ _ _ _ _ p7 u7 (fun c c1 c2 => hx.block c (by omega)) hx.size
 replace u7 : hi7 ≤ x8.heap.size := by omega
 have u8 : hi8 ≤ x8.heap.size := by omega
 replace L := L.trans (hx.mono (by omega : w.heap.size ≤ y8.heap.size))
 replace Z : w.heap.size + 3 ≤ x8.heap.size := by omega
 clear hx hxs hlo8 hhi8
 have g0 : x8.cell? ⟨w.heap.size,0,none⟩ = some (v0) := by simp [World.cell?,B0]
 have k0 : x8.cell? ⟨w.heap.size + 1 + 1,0,none⟩ = some (.slice ad0 n0 cp0) := by simp [World.cell?,B2]
 have g1 : x8.cell? ⟨w.heap.size,1,none⟩ = some (v1) := by simp [World.cell?,B0]
 have k1 : x8.cell? ⟨w.heap.size + 1 + 1,1,none⟩ = some (.slice ad1 n1 cp1) := by simp [World.cell?,B2]
 have g2 : x8.cell? ⟨w.heap.size,2,none⟩ = some (v2) := by simp [World.cell?,B0]
 have k2 : x8.cell? ⟨w.heap.size + 1 + 1,2,none⟩ = some (.slice ad2 n2 cp2) := by simp [World.cell?,B2]
 have g3 : x8.cell? ⟨w.heap.size,3,none⟩ = some (.int .i64 v3) := by simp [World.cell?,B0]
 have k3 : x8.cell? ⟨w.heap.size + 1 + 1,3,none⟩ = some (.int .i64 v3) := by simp [World.cell?,B2]
 have g4 : x8.cell? ⟨w.heap.size,4,none⟩ = some (.int .i64 v4) := by simp [World.cell?,B0]
 have k4 : x8.cell? ⟨w.heap.size + 1 + 1,4,none⟩ = some (.int .i64 v4) := by simp [World.cell?,B2]
 have g5 : x8.cell? ⟨w.heap.size,5,none⟩ = some (.int .i64 v5) := by simp [World.cell?,B0]
 have k5 : x8.cell? ⟨w.heap.size + 1 + 1,5,none⟩ = some (.int .i64 v5) := by simp [World.cell?,B2]
 have g6 : x8.cell? ⟨w.heap.size,6,none⟩ = some (.int .i64 v6) := by simp [World.cell?,B0]
 have k6 : x8.cell? ⟨w.heap.size + 1 + 1,6,none⟩ = some (.int .i64 v6) := by simp [World.cell?,B2]
 have g7 : x8.cell? ⟨w.heap.size,7,none⟩ = some (v7) := by simp [World.cell?,B0]
 have k7 : x8.cell? ⟨w.heap.size + 1 + 1,7,none⟩ = some (.slice ad7 n7 cp7) := by simp [World.cell?,B2]
 have g8 : x8.cell? ⟨w.heap.size,8,none⟩ = some (v8) := by simp [World.cell?,B0]
 have k8 : x8.cell? ⟨w.heap.size + 1 + 1,8,none⟩ = some (.slice none 0 0) := by simp [World.cell?,B2]
 have g9 : x8.cell? ⟨w.heap.size,9,none⟩ = some (v9) := by simp [World.cell?,B0]
 have k9 : x8.cell? ⟨w.heap.size + 1 + 1,9,none⟩ = some (.slice none 0 0) := by simp [World.cell?,B2]
 have g10 : x8.cell? ⟨w.heap.size,10,none⟩ = some (v10) := by simp [World.cell?,B0]
 have k10 : x8.cell? ⟨w.heap.size + 1 + 1,10,none⟩ = some (.slice none 0 0) := by simp [World.cell?,B2]
 have g11 : x8.cell? ⟨w.heap.size,11,none⟩ = some (v11) := by simp [World.cell?,B0]
 have k11 : x8.cell? ⟨w.heap.size + 1 + 1,11,none⟩ = some (.slice none 0 0) := by simp [World.cell?,B2]
 have f2 : ∀ j,x8.frozen? ⟨w.heap.size + 1 + 1,j,none⟩ = false := fun j => by simp [World.frozen?,B2]
 go_wp2_with (fail)
 go_at_call 29
 have D0 : (x8.setCell ⟨w.heap.size + 1 + 1,8,none⟩ (.slice ad8 n8 cp8)).heap[w.heap.size]? = some (.cells #[v0,v1,v2,.int .i64 v3,.int .i64 v4,.int .i64 v5,.int .i64 v6,v7,v8,v9,v10,v11] 33) := by rw [setCell_block _ _ _ _ _ (by omega)]; exact B0
 have D1 : (x8.setCell ⟨w.heap.size + 1 + 1,8,none⟩ (.slice ad8 n8 cp8)).heap[w.heap.size + 1]? = some (.cells #[.slice none 0 0,.slice none 0 0,.slice none 0 0,.int .i64 0,.int .i64 0,.int .i64 0,.int .i64 0,.slice none 0 0,.slice none 0 0,.slice none 0 0,.slice none 0 0,.slice none 0 0] 47) := by rw [setCell_block _ _ _ _ _ (by omega)]; exact B1
 have D2 : (x8.setCell ⟨w.heap.size + 1 + 1,8,none⟩ (.slice ad8 n8 cp8)).heap[w.heap.size + 1 + 1]? = some (.cells #[.slice ad0 n0 cp0,.slice ad1 n1 cp1,.slice ad2 n2 cp2,.int .i64 v3,.int .i64 v4,.int .i64 v5,.int .i64 v6,.slice ad7 n7 cp7,.slice ad8 n8 cp8,.slice none 0 0,.slice none 0 0,.slice none 0 0] 47) := (setCell_at B2 _ _)
 have L2 : Lo w.heap.size w (x8.setCell ⟨w.heap.size + 1 + 1,8,none⟩ (.slice ad8 n8 cp8)) := (Lo.setCell L (by omega))
 have Z2 : w.heap.size + 3 ≤ (x8.setCell ⟨w.heap.size + 1 + 1,8,none⟩ (.slice ad8 n8 cp8)).heap.size := by simp only [setCell_size]; exact Z
 have P02 : Q 0 (.slice ad0 n0 cp0) lo0 hi0 (x8.setCell ⟨w.heap.size + 1 + 1,8,none⟩ (.slice ad8 n8 cp8)) := hP _ _ _ _ _ _ p0 u0 (fun c c1 c2 => by rw [setCell_block _ _ _ _ _ (by omega)]) (by simp only [setCell_size]; exact Nat.le_refl _)
 have U02 : hi0 ≤ (x8.setCell ⟨w.heap.size + 1 + 1,8,none⟩ (.slice ad8 n8 cp8)).heap.size := by simp only [setCell_size]; exact u0
 have P12 : Q 1 (.slice ad1 n1 cp1) lo1 hi1 (x8.setCell ⟨w.heap.size + 1 + 1,8,none⟩ (.slice ad8 n8 cp8)) := hP _ _ _ _ _ _ p1 u1 (fun c c1 c2 => by rw [setCell_block _ _ _ _ _ (by omega)]) (by simp only [setCell_size]; exact Nat.le_refl _)
 have U12 : hi1 ≤ (x8.setCell ⟨w.heap.size + 1 + 1,8,none⟩ (.slice ad8 n8 cp8)).heap.size := by simp only [setCell_size]; exact u1
 have P22 : Q 2 (.slice ad2 n2 cp2) lo2 hi2 (x8.setCell ⟨w.heap.size + 1 + 1,8,none⟩ (.slice ad8 n8 cp8)) := hP _ _ _ _ _ _ p2 u2 (fun c c1 c2 => by rw [setCell_block _ _ _ _ _ (by omega)]) (by simp only [setCell_size]; exact Nat.le_refl _)
 have U22 : hi2 ≤ (x8.setCell ⟨w.heap.size + 1 + 1,8,none⟩ (.slice ad8 n8 cp8)).heap.size := by simp only [setCell_size]; exact u2
 have P72 : Q 7 (.slice ad7 n7 cp7) lo7 hi7 (x8.setCell ⟨w.heap.size + 1 + 1,8,none⟩ (.slice ad8 n8 cp8)) := hP _ _ _ _ _ _ p7 u7 (fun c c1 c2 => by rw [setCell_block _ _ _ _ _ (by omega)]) (by simp only [setCell_size]; exact Nat.le_refl _)
 have U72 : hi7 ≤ (x8.setCell ⟨w.heap.size + 1 + 1,8,none⟩ (.slice ad8 n8 cp8)).heap.size := by simp only [setCell_size]; exact u7
 have P82 : Q 8 (.slice ad8 n8 cp8) lo8 hi8 (x8.setCell ⟨w.heap.size + 1 + 1,8,none⟩ (.slice ad8 n8 cp8)) := hP _ _ _ _ _ _ p8 u8 (fun c c1 c2 => by rw [setCell_block _ _ _ _ _ (by omega)]) (by simp only [setCell_size]; exact Nat.le_refl _)
 have U82 : hi8 ≤ (x8.setCell ⟨w.heap.size + 1 + 1,8,none⟩ (.slice ad8 n8 cp8)).heap.size := by simp only [setCell_size]; exact u8
 clear B0 B1 B2 L Z p0 u0 p1 u1 p2 u2 p7 u7 p8 u8 g0 g1 g2 g3 g4 g5 g6 g7 g8 g9 g10 g11 k0 k1 k2 k3 k4 k5 k6 k7 k8 k9 k10 k11 f2
 generalize (x8.setCell ⟨w.heap.size + 1 + 1,8,none⟩ (.slice ad8 n8 cp8)) = y9 at *
 have B0 := D0
 clear D0
 have B1 := D1
 clear D1
 have B2 := D2
 clear D2
 have L := L2
 clear L2
 have Z := Z2
 clear Z2
 have p0 := P02
 clear P02
 have p1 := P12
 clear P12
 have p2 := P22
 clear P22
 have p7 := P72
 clear P72
 have p8 := P82
 clear P82
 have u0 := U02
 clear U02
 have u1 := U12
 clear U12
 have u2 := U22
 clear U22
 have u7 := U72
 clear U72
 have u8 := U82
 clear U82
 refine (h9 y9 L).mono ?_
 rintro e x9 ⟨ad9,n9,cp9,rfl,hx,p9⟩
 have hxs := hx.size
 replace B0 := (hx.block (w.heap.size) (by omega)).trans B0
 replace B1 := (hx.block (w.heap.size + 1) (by omega)).trans B1
 replace B2 := (hx.block (w.heap.size + 1 + 1) (by omega)).trans B2
 obtain ⟨lo9,hlo9⟩ : ∃ l,l = y9.heap.size := ⟨_,rfl⟩
 obtain ⟨hi9,hhi9⟩ : ∃ l,l = x9.heap.size := ⟨_,rfl⟩
 rw [← hlo9,← hhi9] at p9
 have i9 : lo9 ≤ hi9 ∧ hi8 ≤ lo9 := by omega
 replace p0 := hP _ _ _ _ _ _ p0 u0 (fun c c1 c2 => hx.block c (by omega)) hx.size
 replace u0 : hi0 ≤ x9.heap.size := by omega
 replace p1 := hP _ _ _ _ _ _ p1 u1 (fun c c1 c2 => hx.block c (by omega)) hx.size
 replace u1 : hi1 ≤ x9.heap.size := by omega
 replace p2 := hP _ _ _ _ _ _ p2 u2 (fun c c1 c2 => hx.block c (by omega)) hx.size
 replace u2 : hi2 ≤ x9.heap.size := by omega
 replace p7 := hP _ _ _ _ _ _ p7 u7 (fun c c1 c2 => hx.block c (by omega)) hx.size
 replace u7 : hi7 ≤ x9.heap.size := by omega
 replace p8 := hP _ _ _ _ _ _ p8 u8 (fun c c1 c2 => hx.block c (by omega)) hx.size
 replace u8 : hi8 ≤ x9.heap.size := by omega
 have u9 : hi9 ≤ x9.heap.size := by omega
 replace L := L.trans (hx.mono (by omega : w.heap.size ≤ y9.heap.size))
 replace Z : w.heap.size + 3 ≤ x9.heap.size := by omega
 clear hx hxs hlo9 hhi9
 have g0 : x9.cell? ⟨w.heap.size,0,none⟩ = some (v0) := by simp [World.cell?,B0]
 have k0 : x9.cell? ⟨w.heap.size + 1 + 1,0,none⟩ = some (.slice ad0 n0 cp0) := by simp [World.cell?,B2]
 have g1 : x9.cell? ⟨w.heap.size,1,none⟩ = some (v1) := by simp [World.cell?,B0]
 have k1 : x9.cell? ⟨w.heap.size + 1 + 1,1,none⟩ = some (.slice ad1 n1 cp1) := by simp [World.cell?,B2]
 have g2 : x9.cell? ⟨w.heap.size,2,none⟩ = some (v2) := by simp [World.cell?,B0]
 have k2 : x9.cell? ⟨w.heap.size + 1 + 1,2,none⟩ = some (.slice ad2 n2 cp2) := by simp [World.cell?,B2]
 have g3 : x9.cell? ⟨w.heap.size,3,none⟩ = some (.int .i64 v3) := by simp [World.cell?,B0]
 have k3 : x9.cell? ⟨w.heap.size + 1 + 1,3,none⟩ = some (.int .i64 v3) := by simp [World.cell?,B2]
 have g4 : x9.cell? ⟨w.heap.size,4,none⟩ = some (.int .i64 v4) := by simp [World.cell?,B0]
 have k4 : x9.cell? ⟨w.heap.size + 1 + 1,4,none⟩ = some (.int .i64 v4) := by simp [World.cell?,B2]
 have g5 : x9.cell? ⟨w.heap.size,5,none⟩ = some (.int .i64 v5) := by simp [World.cell?,B0]
 have k5 : x9.cell? ⟨w.heap.size + 1 + 1,5,none⟩ = some (.int .i64 v5) := by simp [World.cell?,B2]
 have g6 : x9.cell? ⟨w.heap.size,6,none⟩ = some (.int .i64 v6) := by simp [World.cell?,B0]
 have k6 : x9.cell? ⟨w.heap.size + 1 + 1,6,none⟩ = some (.int .i64 v6) := by simp [World.cell?,B2]
 have g7 : x9.cell? ⟨w.heap.size,7,none⟩ = some (v7) := by simp [World.cell?,B0]
 have k7 : x9.cell? ⟨w.heap.size + 1 + 1,7,none⟩ = some (.slice ad7 n7 cp7) := by simp [World.cell?,B2]
 have g8 : x9.cell? ⟨w.heap.size,8,none⟩ = some (v8) := by simp [World.cell?,B0]
 have k8 : x9.cell? ⟨w.heap.size + 1 + 1,8,none⟩ = some (.slice ad8 n8 cp8) := by simp [World.cell?,B2]
 have g9 : x9.cell? ⟨w.heap.size,9,none⟩ = some (v9) := by simp [World.cell?,B0]
 have k9 : x9.cell? ⟨w.heap.size + 1 + 1,9,none⟩ = some (.slice none 0 0) := by simp [World.cell?,B2]
 have g10 : x9.cell? ⟨w.heap.size,10,none⟩ = some (v10) := by simp [World.cell?,B0]
 have k10 : x9.cell? ⟨w.heap.size + 1 + 1,10,none⟩ = some (.slice none 0 0) := by simp [World.cell?,B2]
 have g11 : x9.cell? ⟨w.heap.size,11,none⟩ = some (v11) := by simp [World.cell?,B0]
 have k11 : x9.cell? ⟨w.heap.size + 1 + 1,11,none⟩ = some (.slice none 0 0) := by simp [World.cell?,B2]
 have f2 : ∀ j,x9.frozen? ⟨w.heap.size + 1 + 1,j,none⟩ = false := fun j => by simp [World.frozen?,B2]
 go_wp2_with (fail)
 go_at_call 30
 have D0 : (x9.setCell ⟨w.heap.size + 1 + 1,9,none⟩ (.slice ad9 n9 cp9)).heap[w.heap.size]? = some (.cells #[v0,v1,v2,.int .i64 v3,.int .i64 v4,.int .i64 v5,.int .i64 v6,v7,v8,v9,v10,v11] 33) := by rw [setCell_block _ _ _ _ _ (by omega)]; exact B0
 have D1 : (x9.setCell ⟨w.heap.size + 1 + 1,9,none⟩ (.slice ad9 n9 cp9)).heap[w.heap.size + 1]? = some (.cells #[.slice none 0 0,.slice none 0 0,.slice none 0 0,.int .i64 0,.int .i64 0,.int .i64 0,.int .i64 0,.slice none 0 0,.slice none 0 0,.slice none 0 0,.slice none 0 0,.slice none 0 0] 47) := by rw [setCell_block _ _ _ _ _ (by omega)]; exact B1
 have D2 : (x9.setCell ⟨w.heap.size + 1 + 1,9,none⟩ (.slice ad9 n9 cp9)).heap[w.heap.size + 1 + 1]? = some (.cells #[.slice ad0 n0 cp0,.slice ad1 n1 cp1,.slice ad2 n2 cp2,.int .i64 v3,.int .i64 v4,.int .i64 v5,.int .i64 v6,.slice ad7 n7 cp7,.slice ad8 n8 cp8,.slice ad9 n9 cp9,.slice none 0 0,.slice none 0 0] 47) := (setCell_at B2 _ _)
 have L2 : Lo w.heap.size w (x9.setCell ⟨w.heap.size + 1 + 1,9,none⟩ (.slice ad9 n9 cp9)) := (Lo.setCell L (by omega))
 have Z2 : w.heap.size + 3 ≤ (x9.setCell ⟨w.heap.size + 1 + 1,9,none⟩ (.slice ad9 n9 cp9)).heap.size := by simp only [setCell_size]; exact Z
 have P02 : Q 0 (.slice ad0 n0 cp0) lo0 hi0 (x9.setCell ⟨w.heap.size + 1 + 1,9,none⟩ (.slice ad9 n9 cp9)) := hP _ _ _ _ _ _ p0 u0 (fun c c1 c2 => by rw [setCell_block _ _ _ _ _ (by omega)]) (by simp only [setCell_size]; exact Nat.le_refl _)
 have U02 : hi0 ≤ (x9.setCell ⟨w.heap.size + 1 + 1,9,none⟩ (.slice ad9 n9 cp9)).heap.size := by simp only [setCell_size]; exact u0
 have P12 : Q 1 (.slice ad1 n1 cp1) lo1 hi1 (x9.setCell ⟨w.heap.size + 1 + 1,9,none⟩ (.slice ad9 n9 cp9)) := hP _ _ _ _ _ _ p1 u1 (fun c c1 c2 => by rw [setCell_block _ _ _ _ _ (by omega)]) (by simp only [setCell_size]; exact Nat.le_refl _)
 have U12 : hi1 ≤ (x9.setCell ⟨w.heap.size + 1 + 1,9,none⟩ (.slice ad9 n9 cp9)).heap.size := by simp only [setCell_size]; exact u1
 have P22 : Q 2 (.slice ad2 n2 cp2) lo2 hi2 (x9.setCell ⟨w.heap.size + 1 + 1,9,none⟩ (.slice ad9 n9 cp9)) := hP _ _ _ _ _ _ p2 u2 (fun c c1 c2 => by rw [setCell_block _ _ _ _ _ (by omega)]) (by simp only [setCell_size]; exact Nat.le_refl _)
 have U22 : hi2 ≤ (x9.setCell ⟨w.heap.size + 1 + 1,9,none⟩ (.slice ad9 n9 cp9)).heap.size := by simp only [setCell_size]; exact u2
 have P72 : Q 7 (.slice ad7 n7 cp7) lo7 hi7 (x9.setCell ⟨w.heap.size + 1 + 1,9,none⟩ (.slice ad9 n9 cp9)) := hP _ _ _ _ _ _ p7 u7 (fun c c1 c2 => by rw [setCell_block _ _ _ _ _ (by omega)]) (by simp only [setCell_size]; exact Nat.le_refl _)
 have U72 : hi7 ≤ (x9.setCell ⟨w.heap.size + 1 + 1,9,none⟩ (.slice ad9 n9 cp9)).heap.size := by simp only [setCell_size]; exact u7
 have P82 : Q 8 (.slice ad8 n8 cp8) lo8 hi8 (x9.setCell ⟨w.heap.size + 1 + 1,9,none⟩ (.slice ad9 n9 cp9)) := hP _ _ _ _ _ _ p8 u8 (fun c c1 c2 => by rw [setCell_block _ _ _ _ _ (by omega)]) (by simp only [setCell_size]; exact Nat.le_refl _)
 have U82 : hi8 ≤ (x9.setCell ⟨w.heap.size + 1 + 1,9,none⟩ (.slice ad9 n9 cp9)).heap.size := by simp only [setCell_size]; exact u8
 have P92 : Q 9 (.slice ad9 n9 cp9) lo9 hi9 (x9.setCell ⟨w.heap.size + 1 + 1,9,none⟩ (.slice ad9 n9 cp9)) := hP _ _ _ _ _ _ p9 u9 (fun c c1 c2 => by rw [setCell_block _ _ _ _ _ (by omega)]) (by simp only [setCell_size]; exact Nat.le_refl _)
 have U92 : hi9 ≤ (x9.setCell ⟨w.heap.size + 1 + 1,9,none⟩ (.slice ad9 n9 cp9)).heap.size := by simp only [setCell_size]; exact u9
 clear B0 B1 B2 L Z p0 u0 p1 u1 p2 u2 p7 u7 p8 u8 p9 u9 g0 g1 g2 g3 g4 g5 g6 g7 g8 g9 g10 g11 k0 k1 k2 k3 k4 k5 k6 k7 k8 k9 k10 k11 f2
 generalize (x9.setCell ⟨w.heap.size + 1 + 1,9,none⟩ (.slice ad9 n9 cp9)) = y10 at *
 have B0 := D0
 clear D0
 have B1 := D1
 clear D1
 have B2 := D2
 clear D2
 have L := L2
 clear L2
 have Z := Z2
 clear Z2
 have p0 := P02
 clear P02
 have p1 := P12
 clear P12
 have p2 := P22
 clear P22
 have p7 := P72
 clear P72
 have p8 := P82
 clear P82
 have p9 := P92
 clear P92
 have u0 := U02
 clear U02
 have u1 := U12
 clear U12
 have u2 := U22
 clear U22
 have u7 := U72
 clear U72
 have u8 := U82
 clear U82
 have u9 := U92
 clear U92
 refine (h10 y10 L).mono ?_
 rintro e x10 ⟨ad10,n10,cp10,rfl,hx,p10⟩
 have hxs := hx.size
 replace B0 := (hx.block (w.heap.size) (by omega)).trans B0
 replace B1 := (hx.block (w.heap.size + 1) (by omega)).trans B1
 replace B2 := (hx.block (w.heap.size + 1 + 1) (by omega)).trans B2
 obtain ⟨lo10,hlo10⟩ : ∃ l,l = y10.heap.size := ⟨_,rfl⟩
 obtain ⟨hi10,hhi10⟩ : ∃ l,l = x10.heap.size := ⟨_,rfl⟩
 rw [← hlo10,← hhi10] at p10
 have i10 : lo10 ≤ hi10 ∧ hi9 ≤ lo10 := by omega
 replace p0 := hP _ _ _ _ _ _ p0 u0 (fun c c1 c2 => hx.block c (by omega)) hx.size
 replace u0 : hi0 ≤ x10.heap.size := by omega
 replace p1 := hP _ _ _ _ _ _ p1 u1 (fun c c1 c2 => hx.block c (by omega)) hx.size
 replace u1 : hi1 ≤ x10.heap.size := by omega
 replace p2 := hP _ _ _ _ _ _ p2 u2 (fun c c1 c2 => hx.block c (by omega)) hx.size
 replace u2 : hi2 ≤ x10.heap.size := by omega
 replace p7 := hP _ _ _ _ _ _ p7 u7 (fun c c1 c2 => hx.block c (by omega)) hx.size
 replace u7 : hi7 ≤ x10.heap.size := by omega
 replace p8 := hP _ _ _ _ _ _ p8 u8 (fun c c1 c2 => hx.block c (by omega)) hx.size
 replace u8 : hi8 ≤ x10.heap.size := by omega
 replace p9 := hP _ _ _ _ _ _ p9 u9 (fun c c1 c2 => hx.block c (by omega)) hx.size
 replace u9 : hi9 ≤ x10.heap.size := by omega
 have u10 : hi10 ≤ x10.heap.size := by omega
 replace L := L.trans (hx.mono (by omega : w.heap.size ≤ y10.heap.size))
 replace Z : w.heap.size + 3 ≤ x10.heap.size := by omega
 clear hx hxs hlo10 hhi10
 have g0 : x10.cell? ⟨w.heap.size,0,none⟩ = some (v0) := by simp [World.cell?,B0]
 have k0 : x10.cell? ⟨w.heap.size + 1 + 1,0,none⟩ = some (.slice ad0 n0 cp0) := by simp [World.cell?,B2]
 have g1 : x10.cell? ⟨w.heap.size,1,none⟩ = some (v1) := by simp [World.cell?,B0]
 have k1 : x10.cell? ⟨w.heap.size + 1 + 1,1,none⟩ = some (.slice ad1 n1 cp1) := by simp [World.cell?,B2]
 have g2 : x10.cell? ⟨w.heap.size,2,none⟩ = some (v2) := by simp [World.cell?,B0]
 have k2 : x10.cell? ⟨w.heap.size + 1 + 1,2,none⟩ = some (.slice ad2 n2 cp2) := by simp [World.cell?,B2]
 have g3 : x10.cell? ⟨w.heap.size,3,none⟩ = some (.int .i64 v3) := by simp [World.cell?,B0]
 have k3 : x10.cell? ⟨w.heap.size + 1 + 1,3,none⟩ = some (.int .i64 v3) := by simp [World.cell?,B2]
 have g4 : x10.cell? ⟨w.heap.size,4,none⟩ = some (.int .i64 v4) := by simp [World.cell?,B0]
 have k4 : x10.cell? ⟨w.heap.size + 1 + 1,4,none⟩ = some (.int .i64 v4) := by simp [World.cell?,B2]
 have g5 : x10.cell? ⟨w.heap.size,5,none⟩ = some (.int .i64 v5) := by simp [World.cell?,B0]
 have k5 : x10.cell? ⟨w.heap.size + 1 + 1,5,none⟩ = some (.int .i64 v5) := by simp [World.cell?,B2]
 have g6 : x10.cell? ⟨w.heap.size,6,none⟩ = some (.int .i64 v6) := by simp [World.cell?,B0]
 have k6 : x10.cell? ⟨w.heap.size + 1 + 1,6,none⟩ = some (.int .i64 v6) := by simp [World.cell?,B2]
 have g7 : x10.cell? ⟨w.heap.size,7,none⟩ = some (v7) := by simp [World.cell?,B0]
 have k7 : x10.cell? ⟨w.heap.size + 1 + 1,7,none⟩ = some (.slice ad7 n7 cp7) := by simp [World.cell?,B2]
 have g8 : x10.cell? ⟨w.heap.size,8,none⟩ = some (v8) := by simp [World.cell?,B0]
 have k8 : x10.cell? ⟨w.heap.size + 1 + 1,8,none⟩ = some (.slice ad8 n8 cp8) := by simp [World.cell?,B2]
 have g9 : x10.cell? ⟨w.heap.size,9,none⟩ = some (v9) := by simp [World.cell?,B0]
 have k9 : x10.cell? ⟨w.heap.size + 1 + 1,9,none⟩ = some (.slice ad9 n9 cp9) := by simp [World.cell?,B2]
 have g10 : x10.cell? ⟨w.heap.size,10,none⟩ = some (v10) := by simp [World.cell?,B0]
 have k10 : x10.cell? ⟨w.heap.size + 1 + 1,10,none⟩ = some (.slice none 0 0) := by simp [World.cell?,B2]
 have g11 : x10.cell? ⟨w.heap.size,11,none⟩ = some (v11) := by simp [World.cell?,B0]
 have k11 : x10.cell? ⟨w.heap.size + 1 + 1,11,none⟩ = some (.slice none 0 0) := by simp [World.cell?,B2]
 have f2 : ∀ j,x10.frozen? ⟨w.heap.size + 1 + 1,j,none⟩ = false := fun j => by simp [World.frozen?,B2]
 go_wp2_with (fail)
 go_at_call 31
 have D0 : (x10.setCell ⟨w.heap.size + 1 + 1,10,none⟩ (.slice ad10 n10 cp10)).heap[w.heap.size]? = some (.cells #[v0,v1,v2,.int .i64 v3,.int .i64 v4,.int .i64 v5,.int .i64 v6,v7,v8,v9,v10,v11] 33) := by rw [setCell_block _ _ _ _ _ (by omega)]; exact B0
 have D1 : (x10.setCell ⟨w.heap.size + 1 + 1,10,none⟩ (.slice ad10 n10 cp10)).heap[w.heap.size + 1]? = some (.cells #[.slice none 0 0,.slice none 0 0,.slice none 0 0,.int .i64 0,.int .i64 0,.int .i64 0,.int .i64 0,.slice none 0 0,.slice none 0 0,.slice none 0 0,.slice none 0 0,.slice none 0 0] 47) := by rw [setCell_block _ _ _ _ _ (by omega)]; exact B1
 have D2 : (x10.setCell ⟨w.heap.size + 1 + 1,10,none⟩ (.slice ad10 n10 cp10)).heap[w.heap.size + 1 + 1]? = some (.cells #[.slice ad0 n0 cp0,.slice ad1 n1 cp1,.slice ad2 n2 cp2,.int .i64 v3,.int .i64 v4,.int .i64 v5,.int .i64 v6,.slice ad7 n7 cp7,.slice ad8 n8 cp8,.slice ad9 n9 cp9,.slice ad10 n10 cp10,.slice none 0 0] 47) := (setCell_at B2 _ _)
 have L2 : Lo w.heap.size w (x10.setCell ⟨w.heap.size + 1 + 1,10,none⟩ (.slice ad10 n10 cp10)) := (Lo.setCell L (by omega))
 have Z2 : w.heap.size + 3 ≤ (x10.setCell ⟨w.heap.size + 1 + 1,10,none⟩ (.slice ad10 n10 cp10)).heap.size := by simp only [setCell_size]; exact Z
 have P02 : Q 0 (.slice ad0 n0 cp0) lo0 hi0 (x10.setCell ⟨w.heap.size + 1 + 1,10,none⟩ (.slice ad10 n10 cp10)) := hP _ _ _ _ _ _ p0 u0 (fun c c1 c2 => by rw [setCell_block _ _ _ _ _ (by omega)]) (by simp only [setCell_size]; exact Nat.le_refl _)
 have U02 : hi0 ≤ (x10.setCell ⟨w.heap.size + 1 + 1,10,none⟩ (.slice ad10 n10 cp10)).heap.size := by simp only [setCell_size]; exact u0
 have P12 : Q 1 (.slice ad1 n1 cp1) lo1 hi1 (x10.setCell ⟨w.heap.size + 1 + 1,10,none⟩ (.slice ad10 n10 cp10)) := hP _ _ _ _ _ _ p1 u1 (fun c c1 c2 => by rw [setCell_block _ _ _ _ _ (by omega)]) (by simp only [setCell_size]; exact Nat.le_refl _)
 have U12 : hi1 ≤ (x10.setCell ⟨w.heap.size + 1 + 1,10,none⟩ (.slice ad10 n10 cp10)).heap.size := by simp only [setCell_size]; exact u1
 have P22 : Q 2 (.slice ad2 n2 cp2) lo2 hi2 (x10.setCell ⟨w.heap.size + 1 + 1,10,none⟩ (.slice ad10 n10 cp10)) := hP _ _ _ _ _ _ p2 u2 (fun c c1 c2 => by rw [setCell_block _ _ _ _ _ (by omega)]) (by simp only [setCell_size]; exact Nat.le_refl _)
 have U22 : hi2 ≤ (x10.setCell ⟨w.heap.size + 1 + 1,10,none⟩ (.slice ad10 n10 cp10)).heap.size := by simp only [setCell_size]; exact u2
 have P72 : Q 7 (.slice ad7 n7 cp7) lo7 hi7 (x10.setCell ⟨w.heap.size + 1 + 1,10,none⟩ (.slice ad10 n10 cp10)) := hP _ _ _ _ _ _ p7 u7 (fun c c1 c2 => by rw [setCell_block _ _ _ _ _ (by omega)]) (by simp only [setCell_size]; exact Nat.le_refl _)
 have U72 : hi7 ≤ (x10.setCell ⟨w.heap.size + 1 + 1,10,none⟩ (.slice ad10 n10 cp10)).heap.size := by simp only [setCell_size]; exact u7
 have P82 : Q 8 (.slice ad8 n8 cp8) lo8 hi8 (x10.setCell ⟨w.heap.size + 1 + 1,10,none⟩ (.slice ad10 n10 cp10)) := hP _ _ _ _ _ _ p8 u8 (fun c c1 c2 => by rw [setCell_block _ _ _ _ _ (by omega)]) (by simp only [setCell_size]; exact Nat.le_refl _)
 have U82 : hi8 ≤ (x10.setCell ⟨w.heap.size + 1 + 1,10,none⟩ (.slice ad10 n10 cp10)).heap.size := by simp only [setCell_size]; exact u8
 have P92 : Q 9 (.slice ad9 n9 cp9) lo9 hi9 (x10.setCell ⟨w.heap.size + 1 + 1,10,none⟩ (.slice ad10 n10 cp10)) := hP _ _ _ _ _ _ p9 u9 (fun c c1 c2 => by rw [setCell_block _ _ _ _ _ (by omega)]) (by simp only [setCell_size]; exact Nat.le_refl _)
 have U92 : hi9 ≤ (x10.setCell ⟨w.heap.size + 1 + 1,10,none⟩ (.slice ad10 n10 cp10)).heap.size := by simp only [setCell_size]; exact u9
 have P102 : Q 10 (.slice ad10 n10 cp10) lo10 hi10 (x10.setCell ⟨w.heap.size + 1 + 1,10,none⟩ (.slice ad10 n10 cp10)) := hP _ _ _ _ _ _ p10 u10 (fun c c1 c2 => by rw [setCell_block _ _ _ _ _ (by omega)]) (by simp only [setCell_size]; exact Nat.le_refl _)
 have U102 : hi10 ≤ (x10.setCell ⟨w.heap.size + 1 + 1,10,none⟩ (.slice ad10 n10 cp10)).heap.size := by simp only [setCell_size]; exact u10
 clear B0 B1 B2 L Z p0 u0 p1 u1 p2 u2 p7 u7 p8 u8 p9 u9 p10 u10 g0 g1 g2 g3 g4 g5 g6 g7 g8 g9 g10 g11 k0 k1 k2 k3 k4 k5 k6 k7 k8 k9 k10 k11 f2
 generalize (x10.setCell ⟨w.heap.size + 1 + 1,10,none⟩ (.slice ad10 n10 cp10)) = y11 at *
 have B0 := D0
 clear D0
 have B1 := D1
 clear D1
 have B2 := D2
 clear D2
 have L := L2
 clear L2
 have Z := Z2
 clear Z2
 have p0 := P02
 clear P02
 have p1 := P12
 clear P12
 have p2 := P22
 clear P22
 have p7 := P72
 clear P72
 have p8 := P82
 clear P82
 have p9 := P92
 clear P92
 have p10 := P102
 clear P102
 have u0 := U02
 clear U02
 have u1 := U12
 clear U12
 have u2 := U22
 clear U22
 have u7 := U72
 clear U72
 have u8 := U82
 clear U82
 have u9 := U92
 clear U92
 have u10 := U102
 clear U102
 refine (h11 y11 L).mono ?_
 rintro e x11 ⟨ad11,n11,cp11,rfl,hx,p11⟩
 have hxs := hx.size
 replace B0 := (hx.block (w.heap.size) (by omega)).trans B0
 replace B1 := (hx.block (w.heap.size + 1) (by omega)).trans B1
 replace B2 := (hx.block (w.heap.size + 1 + 1) (by omega)).trans B2
 obtain ⟨lo11,hlo11⟩ : ∃ l,l = y11.heap.size := ⟨_,rfl⟩
 obtain ⟨hi11,hhi11⟩ : ∃ l,l = x11.heap.size := ⟨_,rfl⟩
 rw [← hlo11,← hhi11] at p11
 have i11 : lo11 ≤ hi11 ∧ hi10 ≤ lo11 := by omega
 replace p0 := hP _ _ _ _ _ _ p0 u0 (fun c c1 c2 => hx.block c (by omega)) hx.size
 replace u0 : hi0 ≤ x11.heap.size := by omega
 replace p1 := hP _ _ _ _ _ _ p1 u1 (fun c c1 c2 => hx.block c (by omega)) hx.size
 replace u1 : hi1 ≤ x11.heap.size := by omega
 replace p2 := hP _ _ _ _ _ _ p2 u2 (fun c c1 c2 => hx.block c (by omega)) hx.size
 replace u2 : hi2 ≤ x11.heap.size := by omega
 replace p7 := hP _ _ _ _ _ _ p7 u7 (fun c c1 c2 => hx.block c (by omega)) hx.size
 replace u7 : hi7 ≤ x11.heap.size := by omega
 replace p8 := hP _ _ _ _ _ _ p8 u8 (fun c c1 c2 => hx.block c (by omega)) hx.size
 replace u8 : hi8 ≤ x11.heap.size := by omega
 replace p9 := hP _ _ _ _ _ _ p9 u9 (fun c c1 c2 => hx.block c (by omega)) hx.size
 replace u9 : hi9 ≤ x11.heap.size := by omega
 replace p10 := hP _ _ _ _ _ _ p10 u10 (fun c c1 c2 => hx.block c (by omega)) hx.size
 replace u10 : hi10 ≤ x11.heap.size := by omega
 have u11 : hi11 ≤ x11.heap.size := by omega
 replace L := L.trans (hx.mono (by omega : w.heap.size ≤ y11.heap.size))
 replace Z : w.heap.size + 3 ≤ x11.heap.size := by omega
 clear hx hxs hlo11 hhi11
 have g0 : x11.cell? ⟨w.heap.size,0,none⟩ = some (v0) := by simp [World.cell?,B0]
 have k0 : x11.cell? ⟨w.heap.size + 1 + 1,0,none⟩ = some (.slice ad0 n0 cp0) := by simp [World.cell?,B2]
 have g1 : x11.cell? ⟨w.heap.size,1,none⟩ = some (v1) := by simp [World.cell?,B0]
 have k1 : x11.cell? ⟨w.heap.size + 1 + 1,1,none⟩ = some (.slice ad1 n1 cp1) := by simp [World.cell?,B2]
 have g2 : x11.cell? ⟨w.heap.size,2,none⟩ = some (v2) := by simp [World.cell?,B0]
 have k2 : x11.cell? ⟨w.heap.size + 1 + 1,2,none⟩ = some (.slice ad2 n2 cp2) := by simp [World.cell?,B2]
 have g3 : x11.cell? ⟨w.heap.size,3,none⟩ = some (.int .i64 v3) := by simp [World.cell?,B0]
 have k3 : x11.cell? ⟨w.heap.size + 1 + 1,3,none⟩ = some (.int .i64 v3) := by simp [World.cell?,B2]
 have g4 : x11.cell? ⟨w.heap.size,4,none⟩ = some (.int .i64 v4) := by simp [World.cell?,B0]
 have k4 : x11.cell? ⟨w.heap.size + 1 + 1,4,none⟩ = some (.int .i64 v4) := by simp [World.cell?,B2]
 have g5 : x11.cell? ⟨w.heap.size,5,none⟩ = some (.int .i64 v5) := by simp [World.cell?,B0]
 have k5 : x11.cell? ⟨w.heap.size + 1 + 1,5,none⟩ = some (.int .i64 v5) := by simp [World.cell?,B2]
 have g6 : x11.cell? ⟨w.heap.size,6,none⟩ = some (.int .i64 v6) := by simp [World.cell?,B0]
 have k6 : x11.cell? ⟨w.heap.size + 1 + 1,6,none⟩ = some (.int .i64 v6) := by simp [World.cell?,B2]
 have g7 : x11.cell? ⟨w.heap.size,7,none⟩ = some (v7) := by simp [World.cell?,B0]
 have k7 : x11.cell? ⟨w.heap.size + 1 + 1,7,none⟩ = some (.slice ad7 n7 cp7) := by simp [World.cell?,B2]
 have g8 : x11.cell? ⟨w.heap.size,8,none⟩ = some (v8) := by simp [World.cell?,B0]
 have k8 : x11.cell? ⟨w.heap.size + 1 + 1,8,none⟩ = some (.slice ad8 n8 cp8) := by simp [World.cell?,B2]
 have g9 : x11.cell? ⟨w.heap.size,9,none⟩ = some (v9) := by simp [World.cell?,B0]
 have k9 : x11.cell? ⟨w.heap.size + 1 + 1,9,none⟩ = some (.slice ad9 n9 cp9) := by simp [World.cell?,B2]
 have g10 : x11.cell? ⟨w.heap.size,10,none⟩ = some (v10) := by simp [World.cell?,B0]
 have k10 : x11.cell? ⟨w.heap.size + 1 + 1,10,none⟩ = some (.slice ad10 n10 cp10) := by simp [World.cell?,B2]
 have g11 : x11.cell? ⟨w.heap.size,11,none⟩ = some (v11) := by simp [World.cell?,B0]
 have k11 : x11.cell? ⟨w.heap.size + 1 + 1,11,none⟩ = some (.slice none 0 0) := by simp [World.cell?,B2]
 have f2 : ∀ j,x11.frozen? ⟨w.heap.size + 1 + 1,j,none⟩ = false := fun j => by simp [World.frozen?,B2]
 have z0 : x11.cell? ⟨w.heap.size + 1,0,none⟩ = some (.slice none 0 0) := by simp [World.cell?,B1]
 have z1 : x11.cell? ⟨w.heap.size + 1,1,none⟩ = some (.slice none 0 0) := by simp [World.cell?,B1]
 have z2 : x11.cell? ⟨w.heap.size + 1,2,none⟩ = some (.slice none 0 0) := by simp [World.cell?,B1]
 have z3 : x11.cell? ⟨w.heap.size + 1,3,none⟩ = some (.int .i64 0) := by simp [World.cell?,B1]
 have z4 : x11.cell? ⟨w.heap.size + 1,4,none⟩ = some (.int .i64 0) := by simp [World.cell?,B1]
 have z5 : x11.cell? ⟨w.heap.size + 1,5,none⟩ = some (.int .i64 0) := by simp [World.cell?,B1]
 have z6 : x11.cell? ⟨w.heap.size + 1,6,none⟩ = some (.int .i64 0) := by simp [World.cell?,B1]
 have z7 : x11.cell? ⟨w.heap.size + 1,7,none⟩ = some (.slice none 0 0) := by simp [World.cell?,B1]
 have z8 : x11.cell? ⟨w.heap.size + 1,8,none⟩ = some (.slice none 0 0) := by simp [World.cell?,B1]
 have z9 : x11.cell? ⟨w.heap.size + 1,9,none⟩ = some (.slice none 0 0) := by simp [World.cell?,B1]
 have z10 : x11.cell? ⟨w.heap.size + 1,10,none⟩ = some (.slice none 0 0) := by simp [World.cell?,B1]
 have z11 : x11.cell? ⟨w.heap.size + 1,11,none⟩ = some (.slice none 0 0) := by simp [World.cell?,B1]
 have f1 : ∀ j,x11.frozen? ⟨w.heap.size + 1,j,none⟩ = false := fun j => by simp [World.frozen?,B1]
 go_wp2_with (fail)
 refine bodyPost_ret (v := .agg #[.slice ad0 n0 cp0,.slice ad1 n1 cp1,.slice ad2 n2 cp2,.int .i64 v3,.int .i64 v4,.int .i64 v5,.int .i64 v6,.slice ad7 n7 cp7,.slice ad8 n8 cp8,.slice ad9 n9 cp9,.slice ad10 n10 cp10,.slice ad11 n11 cp11]) (by simp [results,Tryz.results6,go_sem,z0,z1,z2,z3,z4,z5,z6,z7,z8,z9,z10,z11,World.cell?_setCell_same',World.cell?_setCell_other]) rfl ⟨_,_,_,lo0,hi0,_,_,_,lo1,hi1,_,_,_,lo2,hi2,_,_,_,lo7,hi7,_,_,_,lo8,hi8,_,_,_,lo9,hi9,_,_,_,lo10,hi10,_,_,_,lo11,hi11,rfl,?_,?_,?_,?_,?_,?_,?_,?_,?_,by omega,by simp only [setCell_size]; omega⟩
 ·exact (Lo.setCell (Lo.setCell (Lo.setCell (Lo.setCell (Lo.setCell (Lo.setCell (Lo.setCell (Lo.setCell (Lo.setCell (Lo.setCell (Lo.setCell (Lo.setCell (Lo.setCell L (by omega)) (by omega)) (by omega)) (by omega)) (by omega)) (by omega)) (by omega)) (by omega)) (by omega)) (by omega)) (by omega)) (by omega)) (by omega))
 ·exact hP _ _ _ _ _ _ p0 u0 (fun c c1 c2 => by rw [setCell_block _ _ _ _ _ (by omega),setCell_block _ _ _ _ _ (by omega),setCell_block _ _ _ _ _ (by omega),setCell_block _ _ _ _ _ (by omega),setCell_block _ _ _ _ _ (by omega),setCell_block _ _ _ _ _ (by omega),setCell_block _ _ _ _ _ (by omega),setCell_block _ _ _ _ _ (by omega),setCell_block _ _ _ _ _ (by omega),setCell_block _ _ _ _ _ (by omega),setCell_block _ _ _ _ _ (by omega),setCell_block _ _ _ _ _ (by omega),setCell_block _ _ _ _ _ (by omega)]) (by simp only [setCell_size]; exact Nat.le_refl _)
 ·exact hP _ _ _ _ _ _ p1 u1 (fun c c1 c2 => by rw [setCell_block _ _ _ _ _ (by omega),setCell_block _ _ _ _ _ (by omega),setCell_block _ _ _ _ _ (by omega),setCell_block _ _ _ _ _ (by omega),setCell_block _ _ _ _ _ (by omega),setCell_block _ _ _ _ _ (by omega),setCell_block _ _ _ _ _ (by omega),setCell_block _ _ _ _ _ (by omega),setCell_block _ _ _ _ _ (by omega),setCell_block _ _ _ _ _ (by omega),setCell_block _ _ _ _ _ (by omega),setCell_block _ _ _ _ _ (by omega),setCell_block _ _ _ _ _ (by omega)]) (by simp only [setCell_size]; exact Nat.le_refl _)
 ·exact hP _ _ _ _ _ _ p2 u2 (fun c c1 c2 => by rw [setCell_block _ _ _ _ _ (by omega),setCell_block _ _ _ _ _ (by omega),setCell_block _ _ _ _ _ (by omega),setCell_block _ _ _ _ _ (by omega),setCell_block _ _ _ _ _ (by omega),setCell_block _ _ _ _ _ (by omega),setCell_block _ _ _ _ _ (by omega),setCell_block _ _ _ _ _ (by omega),setCell_block _ _ _ _ _ (by omega),setCell_block _ _ _ _ _ (by omega),setCell_block _ _ _ _ _ (by omega),setCell_block _ _ _ _ _ (by omega),setCell_block _ _ _ _ _ (by omega)]) (by simp only [setCell_size]; exact Nat.le_refl _)
 ·exact hP _ _ _ _ _ _ p7 u7 (fun c c1 c2 => by rw [setCell_block _ _ _ _ _ (by omega),setCell_block _ _ _ _ _ (by omega),setCell_block _ _ _ _ _ (by omega),setCell_block _ _ _ _ _ (by omega),setCell_block _ _ _ _ _ (by omega),setCell_block _ _ _ _ _ (by omega),setCell_block _ _ _ _ _ (by omega),setCell_block _ _ _ _ _ (by omega),setCell_block _ _ _ _ _ (by omega),setCell_block _ _ _ _ _ (by omega),setCell_block _ _ _ _ _ (by omega),setCell_block _ _ _ _ _ (by omega),setCell_block _ _ _ _ _ (by omega)]) (by simp only [setCell_size]; exact Nat.le_refl _)
 ·exact hP _ _ _ _ _ _ p8 u8 (fun c c1 c2 => by rw [setCell_block _ _ _ _ _ (by omega),setCell_block _ _ _ _ _ (by omega),setCell_block _ _ _ _ _ (by omega),setCell_block _ _ _ _ _ (by omega),setCell_block _ _ _ _ _ (by omega),setCell_block _ _ _ _ _ (by omega),setCell_block _ _ _ _ _ (by omega),setCell_block _ _ _ _ _ (by omega),setCell_block _ _ _ _ _ (by omega),setCell_block _ _ _ _ _ (by omega),setCell_block _ _ _ _ _ (by omega),setCell_block _ _ _ _ _ (by omega),setCell_block _ _ _ _ _ (by omega)]) (by simp only [setCell_size]; exact Nat.le_refl _)
 ·exact hP _ _ _ _ _ _ p9 u9 (fun c c1 c2 => by rw [setCell_block _ _ _ _ _ (by omega),setCell_block _ _ _ _ _ (by omega),setCell_block _ _ _ _ _ (by omega),setCell_block _ _ _ _ _ (by omega),setCell_block _ _ _ _ _ (by omega),setCell_block _ _ _ _ _ (by omega),setCell_block _ _ _ _ _ (by omega),setCell_block _ _ _ _ _ (by omega),setCell_block _ _ _ _ _ (by omega),setCell_block _ _ _ _ _ (by omega),setCell_block _ _ _ _ _ (by omega),setCell_block _ _ _ _ _ (by omega),setCell_block _ _ _ _ _ (by omega)]) (by simp only [setCell_size]; exact Nat.le_refl _)
 ·exact hP _ _ _ _ _ _ p10 u10 (fun c c1 c2 => by rw [setCell_block _ _ _ _ _ (by omega),setCell_block _ _ _ _ _ (by omega),setCell_block _ _ _ _ _ (by omega),setCell_block _ _ _ _ _ (by omega),setCell_block _ _ _ _ _ (by omega),setCell_block _ _ _ _ _ (by omega),setCell_block _ _ _ _ _ (by omega),setCell_block _ _ _ _ _ (by omega),setCell_block _ _ _ _ _ (by omega),setCell_block _ _ _ _ _ (by omega),setCell_block _ _ _ _ _ (by omega),setCell_block _ _ _ _ _ (by omega),setCell_block _ _ _ _ _ (by omega)]) (by simp only [setCell_size]; exact Nat.le_refl _)
 ·exact hP _ _ _ _ _ _ p11 u11 (fun c c1 c2 => by rw [setCell_block _ _ _ _ _ (by omega),setCell_block _ _ _ _ _ (by omega),setCell_block _ _ _ _ _ (by omega),setCell_block _ _ _ _ _ (by omega),setCell_block _ _ _ _ _ (by omega),setCell_block _ _ _ _ _ (by omega),setCell_block _ _ _ _ _ (by omega),setCell_block _ _ _ _ _ (by omega),setCell_block _ _ _ _ _ (by omega),setCell_block _ _ _ _ _ (by omega),setCell_block _ _ _ _ _ (by omega),setCell_block _ _ _ _ _ (by omega),setCell_block _ _ _ _ _ (by omega)]) (by simp only [setCell_size]; exact Nat.le_refl _)⟩
set_option maxHeartbeats 6400000 in
theorem mark_desk_walk : MarkDeskWalk Tryz.prog 10 44 45 46 47 48 49 50 51 := ⟨by
 intro w v0 v1 v2 v7 v8 v9 v10 v11 v3 v4 v5 v6 m0 lo hi hm hc h0 h1 h2 h7 h8 h9 h10 h11
 go_enter Tryz.func10,Tryz.ntmps10
 go_wp2_with (fail)
 have B0 : (w.alloc (.cells #[v0,v1,v2,.int .i64 v3,.int .i64 v4,.int .i64 v5,.int .i64 v6,v7,v8,v9,v10,v11] 47)).heap[w.heap.size]? = some (.cells #[v0,v1,v2,.int .i64 v3,.int .i64 v4,.int .i64 v5,.int .i64 v6,v7,v8,v9,v10,v11] 47) := get_new _ _ rfl
 have R : Rg (fun c => lo 0 ≤ c ∧ c < hi 11) w (w.alloc (.cells #[v0,v1,v2,.int .i64 v3,.int .i64 v4,.int .i64 v5,.int .i64 v6,v7,v8,v9,v10,v11] 47)) := Rg.of_lo ((Lo.refl _ w).alloc (Nat.le_refl _) _)
 have I0 : ∀ c,lo 0 ≤ c → c < hi 0 → (w.alloc (.cells #[v0,v1,v2,.int .i64 v3,.int .i64 v4,.int .i64 v5,.int .i64 v6,v7,v8,v9,v10,v11] 47)).heap[c]? = w.heap[c]? := fun c c1 c2 => get_old _ _ (by omega)
 have I1 : ∀ c,lo 1 ≤ c → c < hi 1 → (w.alloc (.cells #[v0,v1,v2,.int .i64 v3,.int .i64 v4,.int .i64 v5,.int .i64 v6,v7,v8,v9,v10,v11] 47)).heap[c]? = w.heap[c]? := fun c c1 c2 => get_old _ _ (by omega)
 have I2 : ∀ c,lo 2 ≤ c → c < hi 2 → (w.alloc (.cells #[v0,v1,v2,.int .i64 v3,.int .i64 v4,.int .i64 v5,.int .i64 v6,v7,v8,v9,v10,v11] 47)).heap[c]? = w.heap[c]? := fun c c1 c2 => get_old _ _ (by omega)
 have I7 : ∀ c,lo 7 ≤ c → c < hi 7 → (w.alloc (.cells #[v0,v1,v2,.int .i64 v3,.int .i64 v4,.int .i64 v5,.int .i64 v6,v7,v8,v9,v10,v11] 47)).heap[c]? = w.heap[c]? := fun c c1 c2 => get_old _ _ (by omega)
 have I8 : ∀ c,lo 8 ≤ c → c < hi 8 → (w.alloc (.cells #[v0,v1,v2,.int .i64 v3,.int .i64 v4,.int .i64 v5,.int .i64 v6,v7,v8,v9,v10,v11] 47)).heap[c]? = w.heap[c]? := fun c c1 c2 => get_old _ _ (by omega)
 have I9 : ∀ c,lo 9 ≤ c → c < hi 9 → (w.alloc (.cells #[v0,v1,v2,.int .i64 v3,.int .i64 v4,.int .i64 v5,.int .i64 v6,v7,v8,v9,v10,v11] 47)).heap[c]? = w.heap[c]? := fun c c1 c2 => get_old _ _ (by omega)
 have I10 : ∀ c,lo 10 ≤ c → c < hi 10 → (w.alloc (.cells #[v0,v1,v2,.int .i64 v3,.int .i64 v4,.int .i64 v5,.int .i64 v6,v7,v8,v9,v10,v11] 47)).heap[c]? = w.heap[c]? := fun c c1 c2 => get_old _ _ (by omega)
 have I11 : ∀ c,lo 11 ≤ c → c < hi 11 → (w.alloc (.cells #[v0,v1,v2,.int .i64 v3,.int .i64 v4,.int .i64 v5,.int .i64 v6,v7,v8,v9,v10,v11] 47)).heap[c]? = w.heap[c]? := fun c c1 c2 => get_old _ _ (by omega)
 go_at_call 44
 generalize (w.alloc (.cells #[v0,v1,v2,.int .i64 v3,.int .i64 v4,.int .i64 v5,.int .i64 v6,v7,v8,v9,v10,v11] 47)) = x at *
 refine (h0 m0 x (by omega) R I0).mono ?_
 rintro e x0 ⟨m0,rfl,hm0,hx⟩
 have hxs := hx.size
 have hlt : w.heap.size < x.heap.size := by
  rcases Nat.lt_or_ge w.heap.size x.heap.size with h | h
  ·exact h
  ·rw [Array.getElem?_eq_none h] at B0; cases B0
 replace B0 := (hx.block w.heap.size hlt (by omega)).trans B0
 replace R := R.trans (hx.mono (fun c hc' => (by omega : lo 0 ≤ c ∧ c < hi 11)))
 replace I1 : ∀ c,lo 1 ≤ c → c < hi 1 → x0.heap[c]? = w.heap[c]? := fun c c1 c2 => (hx.block c (by omega) (by omega)).trans (I1 c c1 c2)
 replace I2 : ∀ c,lo 2 ≤ c → c < hi 2 → x0.heap[c]? = w.heap[c]? := fun c c1 c2 => (hx.block c (by omega) (by omega)).trans (I2 c c1 c2)
 replace I7 : ∀ c,lo 7 ≤ c → c < hi 7 → x0.heap[c]? = w.heap[c]? := fun c c1 c2 => (hx.block c (by omega) (by omega)).trans (I7 c c1 c2)
 replace I8 : ∀ c,lo 8 ≤ c → c < hi 8 → x0.heap[c]? = w.heap[c]? := fun c c1 c2 => (hx.block c (by omega) (by omega)).trans (I8 c c1 c2)
 replace I9 : ∀ c,lo 9 ≤ c → c < hi 9 → x0.heap[c]? = w.heap[c]? := fun c c1 c2 => (hx.block c (by omega) (by omega)).trans (I9 c c1 c2)
 replace I10 : ∀ c,lo 10 ≤ c → c < hi 10 → x0.heap[c]? = w.heap[c]? := fun c c1 c2 => (hx.block c (by omega) (by omega)).trans (I10 c c1 c2)
 replace I11 : ∀ c,lo 11 ≤ c → c < hi 11 → x0.heap[c]? = w.heap[c]? := fun c c1 c2 => (hx.block c (by omega) (by omega)).trans (I11 c c1 c2)
 clear hx hxs hlt
 have g1 : x0.cell? ⟨w.heap.size,1,none⟩ = some v1 := by simp [World.cell?,B0]
 have g2 : x0.cell? ⟨w.heap.size,2,none⟩ = some v2 := by simp [World.cell?,B0]
 have g7 : x0.cell? ⟨w.heap.size,7,none⟩ = some v7 := by simp [World.cell?,B0]
 have g8 : x0.cell? ⟨w.heap.size,8,none⟩ = some v8 := by simp [World.cell?,B0]
 have g9 : x0.cell? ⟨w.heap.size,9,none⟩ = some v9 := by simp [World.cell?,B0]
 have g10 : x0.cell? ⟨w.heap.size,10,none⟩ = some v10 := by simp [World.cell?,B0]
 have g11 : x0.cell? ⟨w.heap.size,11,none⟩ = some v11 := by simp [World.cell?,B0]
 go_wp2_with (fail)
 go_at_call 45
 refine (h1 m0 x0 (by omega) R I1).mono ?_
 rintro e x1 ⟨m1,rfl,hm1,hx⟩
 have hxs := hx.size
 have hlt : w.heap.size < x0.heap.size := by
  rcases Nat.lt_or_ge w.heap.size x0.heap.size with h | h
  ·exact h
  ·rw [Array.getElem?_eq_none h] at B0; cases B0
 replace B0 := (hx.block w.heap.size hlt (by omega)).trans B0
 replace R := R.trans (hx.mono (fun c hc' => (by omega : lo 0 ≤ c ∧ c < hi 11)))
 replace I2 : ∀ c,lo 2 ≤ c → c < hi 2 → x1.heap[c]? = w.heap[c]? := fun c c1 c2 => (hx.block c (by omega) (by omega)).trans (I2 c c1 c2)
 replace I7 : ∀ c,lo 7 ≤ c → c < hi 7 → x1.heap[c]? = w.heap[c]? := fun c c1 c2 => (hx.block c (by omega) (by omega)).trans (I7 c c1 c2)
 replace I8 : ∀ c,lo 8 ≤ c → c < hi 8 → x1.heap[c]? = w.heap[c]? := fun c c1 c2 => (hx.block c (by omega) (by omega)).trans (I8 c c1 c2)
 replace I9 : ∀ c,lo 9 ≤ c → c < hi 9 → x1.heap[c]? = w.heap[c]? := fun c c1 c2 => (hx.block c (by omega) (by omega)).trans (I9 c c1 c2)
 replace I10 : ∀ c,lo 10 ≤ c → c < hi 10 → x1.heap[c]? = w.heap[c]? := fun c c1 c2 => (hx.block c (by omega) (by omega)).trans (I10 c c1 c2)
 replace I11 : ∀ c,lo 11 ≤ c → c < hi 11 → x1.heap[c]? = w.heap[c]? := fun c c1 c2 => (hx.block c (by omega) (by omega)).trans (I11 c c1 c2)
 clear hx hxs hlt
 have g2 : x1.cell? ⟨w.heap.size,2,none⟩ = some v2 := by simp [World.cell?,B0]
 have g7 : x1.cell? ⟨w.heap.size,7,none⟩ = some v7 := by simp [World.cell?,B0]
 have g8 : x1.cell? ⟨w.heap.size,8,none⟩ = some v8 := by simp [World.cell?,B0]
 have g9 : x1.cell? ⟨w.heap.size,9,none⟩ = some v9 := by simp [World.cell?,B0]
 have g10 : x1.cell? ⟨w.heap.size,10,none⟩ = some v10 := by simp [World.cell?,B0]
 have g11 : x1.cell? ⟨w.heap.size,11,none⟩ = some v11 := by simp [World.cell?,B0]
 go_wp2_with (fail)
 go_at_call 46
 refine (h2 m1 x1 (by omega) R I2).mono ?_
 rintro e x2 ⟨m2,rfl,hm2,hx⟩
 have hxs := hx.size
 have hlt : w.heap.size < x1.heap.size := by
  rcases Nat.lt_or_ge w.heap.size x1.heap.size with h | h
  ·exact h
  ·rw [Array.getElem?_eq_none h] at B0; cases B0
 replace B0 := (hx.block w.heap.size hlt (by omega)).trans B0
 replace R := R.trans (hx.mono (fun c hc' => (by omega : lo 0 ≤ c ∧ c < hi 11)))
 replace I7 : ∀ c,lo 7 ≤ c → c < hi 7 → x2.heap[c]? = w.heap[c]? := fun c c1 c2 => (hx.block c (by omega) (by omega)).trans (I7 c c1 c2)
 replace I8 : ∀ c,lo 8 ≤ c → c < hi 8 → x2.heap[c]? = w.heap[c]? := fun c c1 c2 => (hx.block c (by omega) (by omega)).trans (I8 c c1 c2)
 replace I9 : ∀ c,lo 9 ≤ c → c < hi 9 → x2.heap[c]? = w.heap[c]? := fun c c1 c2 => (hx.block c (by omega) (by omega)).trans (I9 c c1 c2)
 replace I10 : ∀ c,lo 10 ≤ c → c < hi 10 → x2.heap[c]? = w.heap[c]? := fun c c1 c2 => (hx.block c (by omega) (by omega)).trans (I10 c c1 c2)
 replace I11 : ∀ c,lo 11 ≤ c → c < hi 11 → x2.heap[c]? = w.heap[c]? := fun c c1 c2 => (hx.block c (by omega) (by omega)).trans (I11 c c1 c2)
 clear hx hxs hlt
 have g7 : x2.cell? ⟨w.heap.size,7,none⟩ = some v7 := by simp [World.cell?,B0]
 have g8 : x2.cell? ⟨w.heap.size,8,none⟩ = some v8 := by simp [World.cell?,B0]
 have g9 : x2.cell? ⟨w.heap.size,9,none⟩ = some v9 := by simp [World.cell?,B0]
 have g10 : x2.cell? ⟨w.heap.size,10,none⟩ = some v10 := by simp [World.cell?,B0]
 have g11 : x2.cell? ⟨w.heap.size,11,none⟩ = some v11 := by simp [World.cell?,B0]
 go_wp2_with (fail)
 go_at_call 47
 refine (h7 m2 x2 (by omega) R I7).mono ?_
 rintro e x7 ⟨m7,rfl,hm7,hx⟩
 have hxs := hx.size
 have hlt : w.heap.size < x2.heap.size := by
  rcases Nat.lt_or_ge w.heap.size x2.heap.size with h | h
  ·exact h
  ·rw [Array.getElem?_eq_none h] at B0; cases B0
 replace B0 := (hx.block w.heap.size hlt (by omega)).trans B0
 replace R := R.trans (hx.mono (fun c hc' => (by omega : lo 0 ≤ c ∧ c < hi 11)))
 replace I8 : ∀ c,lo 8 ≤ c → c < hi 8 → x7.heap[c]? = w.heap[c]? := fun c c1 c2 => (hx.block c (by omega) (by omega)).trans (I8 c c1 c2)
 replace I9 : ∀ c,lo 9 ≤ c → c < hi 9 → x7.heap[c]? = w.heap[c]? := fun c c1 c2 => (hx.block c (by omega) (by omega)).trans (I9 c c1 c2)
 replace I10 : ∀ c,lo 10 ≤ c → c < hi 10 → x7.heap[c]? = w.heap[c]? := fun c c1 c2 => (hx.block c (by omega) (by omega)).trans (I10 c c1 c2)
 replace I11 : ∀ c,lo 11 ≤ c → c < hi 11 → x7.heap[c]? = w.heap[c]? := fun c c1 c2 => (hx.block c (by omega) (by omega)).trans (I11 c c1 c2)
 clear hx hxs hlt
 have g8 : x7.cell? ⟨w.heap.size,8,none⟩ = some v8 := by simp [World.cell?,B0]
 have g9 : x7.cell? ⟨w.heap.size,9,none⟩ = some v9 := by simp [World.cell?,B0]
 have g10 : x7.cell? ⟨w.heap.size,10,none⟩ = some v10 := by simp [World.cell?,B0]
 have g11 : x7.cell? ⟨w.heap.size,11,none⟩ = some v11 := by simp [World.cell?,B0]
 go_wp2_with (fail)
 go_at_call 48
 refine (h8 m7 x7 (by omega) R I8).mono ?_
 rintro e x8 ⟨m8,rfl,hm8,hx⟩
 have hxs := hx.size
 have hlt : w.heap.size < x7.heap.size := by
  rcases Nat.lt_or_ge w.heap.size x7.heap.size with h | h
  ·exact h
  ·rw [Array.getElem?_eq_none h] at B0; cases B0
 replace B0 := (hx.block w.heap.size hlt (by omega)).trans B0
 replace R := R.trans (hx.mono (fun c hc' => (by omega : lo 0 ≤ c ∧ c < hi 11)))
 replace I9 : ∀ c,lo 9 ≤ c → c < hi 9 → x8.heap[c]? = w.heap[c]? := fun c c1 c2 => (hx.block c (by omega) (by omega)).trans (I9 c c1 c2)
 replace I10 : ∀ c,lo 10 ≤ c → c < hi 10 → x8.heap[c]? = w.heap[c]? := fun c c1 c2 => (hx.block c (by omega) (by omega)).trans (I10 c c1 c2)
 replace I11 : ∀ c,lo 11 ≤ c → c < hi 11 → x8.heap[c]? = w.heap[c]? := fun c c1 c2 => (hx.block c (by omega) (by omega)).trans (I11 c c1 c2)
 clear hx hxs hlt
 have g9 : x8.cell? ⟨w.heap.size,9,none⟩ = some v9 := by simp [World.cell?,B0]
 have g10 : x8.cell? ⟨w.heap.size,10,none⟩ = some v10 := by simp [World.cell?,B0]
 have g11 : x8.cell? ⟨w.heap.size,11,none⟩ = some v11 := by simp [World.cell?,B0]
 go_wp2_with (fail)
 go_at_call 49
 refine (h9 m8 x8 (by omega) R I9).mono ?_
 rintro e x9 ⟨m9,rfl,hm9,hx⟩
 have hxs := hx.size
 have hlt : w.heap.size < x8.heap.size := by
  rcases Nat.lt_or_ge w.heap.size x8.heap.size with h | h
  ·exact h
  ·rw [Array.getElem?_eq_none h] at B0; cases B0
 replace B0 := (hx.block w.heap.size hlt (by omega)).trans B0
 replace R := R.trans (hx.mono (fun c hc' => (by omega : lo 0 ≤ c ∧ c < hi 11)))
 replace I10 : ∀ c,lo 10 ≤ c → c < hi 10 → x9.heap[c]? = w.heap[c]? := fun c c1 c2 => (hx.block c (by omega) (by omega)).trans (I10 c c1 c2)
 replace I11 : ∀ c,lo 11 ≤ c → c < hi 11 → x9.heap[c]? = w.heap[c]? := fun c c1 c2 => (hx.block c (by omega) (by omega)).trans (I11 c c1 c2)
 clear hx hxs hlt
 have g10 : x9.cell? ⟨w.heap.size,10,none⟩ = some v10 := by simp [World.cell?,B0]
 have g11 : x9.cell? ⟨w.heap.size,11,none⟩ = some v11 := by simp [World.cell?,B0]
 go_wp2_with (fail)
 go_at_call 50
 refine (h10 m9 x9 (by omega) R I10).mono ?_
 rintro e x10 ⟨m10,rfl,hm10,hx⟩
 have hxs := hx.size
 have hlt : w.heap.size < x9.heap.size := by
  rcases Nat.lt_or_ge w.heap.size x9.heap.size with h | h
  ·exact h
  ·rw [Array.getElem?_eq_none h] at B0; cases B0
 replace B0 := (hx.block w.heap.size hlt (by omega)).trans B0
 replace R := R.trans (hx.mono (fun c hc' => (by omega : lo 0 ≤ c ∧ c < hi 11)))
 replace I11 : ∀ c,lo 11 ≤ c → c < hi 11 → x10.heap[c]? = w.heap[c]? := fun c c1 c2 => (hx.block c (by omega) (by omega)).trans (I11 c c1 c2)
 clear hx hxs hlt
 have g11 : x10.cell? ⟨w.heap.size,11,none⟩ = some v11 := by simp [World.cell?,B0]
 go_wp2_with (fail)
 go_at_call 51
 refine (h11 m10 x10 (by omega) R I11).mono ?_
 rintro e x11 ⟨m11,rfl,hm11,hx⟩
 have hxs := hx.size
 have hlt : w.heap.size < x10.heap.size := by
  rcases Nat.lt_or_ge w.heap.size x10.heap.size with h | h
  ·exact h
  ·rw [Array.getElem?_eq_none h] at B0; cases B0
 replace B0 := (hx.block w.heap.size hlt (by omega)).trans B0
 replace R := R.trans (hx.mono (fun c hc' => (by omega : lo 0 ≤ c ∧ c < hi 11)))
 clear hx hxs hlt
 go_wp2_with (fail)
 go_ret
 exact ⟨_,rfl,by omega,R⟩⟩
set_option maxHeartbeats 12800000 in
theorem law_walk : DeskLawWalk Tryz.prog 3 4 5 6 7 8 9 10 11 12 := ⟨⟨_,Tryz.func3,by decide +kernel,rfl⟩,by
 intro w v0 v1 v2 v7 v8 v9 v10 v11 v3 v4 v5 v6 n c0 M T W0 G G2 kT kG kG2 kW hSz hTo hSp hIm hEp hEs hMk hMp hHp
 go_enter Tryz.func3,Tryz.ntmps3
 go_wp2_with (fail)
 go_at_call 4
 have B1 : (w.alloc (.cells #[v0,v1,v2,.int .i64 v3,.int .i64 v4,.int .i64 v5,.int .i64 v6,v7,v8,v9,v10,v11] 33)).heap[w.heap.size]? = some (.cells #[v0,v1,v2,.int .i64 v3,.int .i64 v4,.int .i64 v5,.int .i64 v6,v7,v8,v9,v10,v11] 33) := get_new _ _ rfl
 have L : Lo w.heap.size w (w.alloc (.cells #[v0,v1,v2,.int .i64 v3,.int .i64 v4,.int .i64 v5,.int .i64 v6,v7,v8,v9,v10,v11] 33)) := (Lo.refl _ w).alloc (Nat.le_refl _) _
 have Z : w.heap.size + 1 ≤ (w.alloc (.cells #[v0,v1,v2,.int .i64 v3,.int .i64 v4,.int .i64 v5,.int .i64 v6,v7,v8,v9,v10,v11] 33)).heap.size := by simp
 generalize (w.alloc (.cells #[v0,v1,v2,.int .i64 v3,.int .i64 v4,.int .i64 v5,.int .i64 v6,v7,v8,v9,v10,v11] 33)) = y at *
 refine (hSz y L).mono ?_
 rintro e x1 ⟨rfl,hx1⟩
 have hsx1 := hx1.size
 replace B1 := (hx1.block w.heap.size (by omega)).trans B1
 replace L := L.trans (hx1.mono (by omega : w.heap.size ≤ y.heap.size))
 replace Z : w.heap.size + 1 ≤ x1.heap.size := by omega
 have g0 : x1.cell? ⟨w.heap.size,0,none⟩ = some (v0) := by simp [World.cell?,B1]
 have g1 : x1.cell? ⟨w.heap.size,1,none⟩ = some (v1) := by simp [World.cell?,B1]
 have g2 : x1.cell? ⟨w.heap.size,2,none⟩ = some (v2) := by simp [World.cell?,B1]
 have g3 : x1.cell? ⟨w.heap.size,3,none⟩ = some (.int .i64 v3) := by simp [World.cell?,B1]
 have g4 : x1.cell? ⟨w.heap.size,4,none⟩ = some (.int .i64 v4) := by simp [World.cell?,B1]
 have g5 : x1.cell? ⟨w.heap.size,5,none⟩ = some (.int .i64 v5) := by simp [World.cell?,B1]
 have g6 : x1.cell? ⟨w.heap.size,6,none⟩ = some (.int .i64 v6) := by simp [World.cell?,B1]
 have g7 : x1.cell? ⟨w.heap.size,7,none⟩ = some (v7) := by simp [World.cell?,B1]
 have g8 : x1.cell? ⟨w.heap.size,8,none⟩ = some (v8) := by simp [World.cell?,B1]
 have g9 : x1.cell? ⟨w.heap.size,9,none⟩ = some (v9) := by simp [World.cell?,B1]
 have g10 : x1.cell? ⟨w.heap.size,10,none⟩ = some (v10) := by simp [World.cell?,B1]
 have g11 : x1.cell? ⟨w.heap.size,11,none⟩ = some (v11) := by simp [World.cell?,B1]
 go_wp2_with (fail)
 ·go_ret
  exact ⟨rfl,L⟩
 go_at_call 6
 refine (hTo x1 L).mono ?_
 rintro e x2 ⟨a1,n1,c1,rfl,hx2,t1⟩
 have hsx2 := hx2.size
 replace B1 := (hx2.block w.heap.size (by omega)).trans B1
 replace L := L.trans (hx2.mono (by omega : w.heap.size ≤ x1.heap.size))
 replace Z : w.heap.size + 1 ≤ x2.heap.size := by omega
 go_wp2_with (fail)
 go_at_call 5
 refine (hSp _ _ _ x2 L t1).mono ?_
 rintro e x3 ⟨pa,pn,pc,rfl,hx3,p0⟩
 have hsx3 := hx3.size
 replace B1 := (hx3.block w.heap.size (by omega)).trans B1
 replace L := L.trans (hx3.mono (by omega : w.heap.size ≤ x2.heap.size))
 replace Z : w.heap.size + 1 ≤ x3.heap.size := by omega
 have Z3 := Z
 clear g0 g1 g2 g3 g4 g5 g6 g7 g8 g9 g10 g11
 have g0 : x3.cell? ⟨w.heap.size,0,none⟩ = some (v0) := by simp [World.cell?,B1]
 have g1 : x3.cell? ⟨w.heap.size,1,none⟩ = some (v1) := by simp [World.cell?,B1]
 have g2 : x3.cell? ⟨w.heap.size,2,none⟩ = some (v2) := by simp [World.cell?,B1]
 have g3 : x3.cell? ⟨w.heap.size,3,none⟩ = some (.int .i64 v3) := by simp [World.cell?,B1]
 have g4 : x3.cell? ⟨w.heap.size,4,none⟩ = some (.int .i64 v4) := by simp [World.cell?,B1]
 have g5 : x3.cell? ⟨w.heap.size,5,none⟩ = some (.int .i64 v5) := by simp [World.cell?,B1]
 have g6 : x3.cell? ⟨w.heap.size,6,none⟩ = some (.int .i64 v6) := by simp [World.cell?,B1]
 have g7 : x3.cell? ⟨w.heap.size,7,none⟩ = some (v7) := by simp [World.cell?,B1]
 have g8 : x3.cell? ⟨w.heap.size,8,none⟩ = some (v8) := by simp [World.cell?,B1]
 have g9 : x3.cell? ⟨w.heap.size,9,none⟩ = some (v9) := by simp [World.cell?,B1]
 have g10 : x3.cell? ⟨w.heap.size,10,none⟩ = some (v10) := by simp [World.cell?,B1]
 have g11 : x3.cell? ⟨w.heap.size,11,none⟩ = some (v11) := by simp [World.cell?,B1]
 go_wp2_with (fail)
 go_at_call 6
 refine (hTo x3 L).mono ?_
 rintro e x4 ⟨a2,n2,c2,rfl,hx4,t2⟩
 have hsx4 := hx4.size
 replace B1 := (hx4.block w.heap.size (by omega)).trans B1
 replace L := L.trans (hx4.mono (by omega : w.heap.size ≤ x3.heap.size))
 replace Z : w.heap.size + 1 ≤ x4.heap.size := by omega
 replace p0 := kW _ _ _ _ p0 (fun c hc => hx4.block c hc) hx4.size
 clear g0 g1 g2 g3 g4 g5 g6 g7 g8 g9 g10 g11
 go_wp2_with (fail)
 go_at_call 7
 have C1 : (x4.alloc (.cells #[.slice (a2 0) (n2 0) (c2 0),.slice (a2 1) (n2 1) (c2 1),.slice (a2 2) (n2 2) (c2 2),.int .i64 v3,.int .i64 v4,.int .i64 v5,.int .i64 v6,.slice (a2 7) (n2 7) (c2 7),.slice (a2 8) (n2 8) (c2 8),.slice (a2 9) (n2 9) (c2 9),.slice (a2 10) (n2 10) (c2 10),.slice (a2 11) (n2 11) (c2 11)] 47)).heap[w.heap.size]? = some (.cells #[v0,v1,v2,.int .i64 v3,.int .i64 v4,.int .i64 v5,.int .i64 v6,v7,v8,v9,v10,v11] 33) := (get_old _ _ (by omega)).trans B1
 have B6 : (x4.alloc (.cells #[.slice (a2 0) (n2 0) (c2 0),.slice (a2 1) (n2 1) (c2 1),.slice (a2 2) (n2 2) (c2 2),.int .i64 v3,.int .i64 v4,.int .i64 v5,.int .i64 v6,.slice (a2 7) (n2 7) (c2 7),.slice (a2 8) (n2 8) (c2 8),.slice (a2 9) (n2 9) (c2 9),.slice (a2 10) (n2 10) (c2 10),.slice (a2 11) (n2 11) (c2 11)] 47)).heap[x4.heap.size]? = some (.cells #[.slice (a2 0) (n2 0) (c2 0),.slice (a2 1) (n2 1) (c2 1),.slice (a2 2) (n2 2) (c2 2),.int .i64 v3,.int .i64 v4,.int .i64 v5,.int .i64 v6,.slice (a2 7) (n2 7) (c2 7),.slice (a2 8) (n2 8) (c2 8),.slice (a2 9) (n2 9) (c2 9),.slice (a2 10) (n2 10) (c2 10),.slice (a2 11) (n2 11) (c2 11)] 47) := get_new _ _ rfl
 have L6 : Lo w.heap.size w (x4.alloc (.cells #[.slice (a2 0) (n2 0) (c2 0),.slice (a2 1) (n2 1) (c2 1),.slice (a2 2) (n2 2) (c2 2),.int .i64 v3,.int .i64 v4,.int .i64 v5,.int .i64 v6,.slice (a2 7) (n2 7) (c2 7),.slice (a2 8) (n2 8) (c2 8),.slice (a2 9) (n2 9) (c2 9),.slice (a2 10) (n2 10) (c2 10),.slice (a2 11) (n2 11) (c2 11)] 47)) := L.alloc (by omega) _
 have S6 : (x4.alloc (.cells #[.slice (a2 0) (n2 0) (c2 0),.slice (a2 1) (n2 1) (c2 1),.slice (a2 2) (n2 2) (c2 2),.int .i64 v3,.int .i64 v4,.int .i64 v5,.int .i64 v6,.slice (a2 7) (n2 7) (c2 7),.slice (a2 8) (n2 8) (c2 8),.slice (a2 9) (n2 9) (c2 9),.slice (a2 10) (n2 10) (c2 10),.slice (a2 11) (n2 11) (c2 11)] 47)).heap.size = x4.heap.size + 1 := by simp only [World.alloc,Array.size_push]
 have u2 : T (.agg #[.slice (a2 0) (n2 0) (c2 0),.slice (a2 1) (n2 1) (c2 1),.slice (a2 2) (n2 2) (c2 2),.int .i64 v3,.int .i64 v4,.int .i64 v5,.int .i64 v6,.slice (a2 7) (n2 7) (c2 7),.slice (a2 8) (n2 8) (c2 8),.slice (a2 9) (n2 9) (c2 9),.slice (a2 10) (n2 10) (c2 10),.slice (a2 11) (n2 11) (c2 11)]) x3.heap.size x4.heap.size (x4.alloc (.cells #[.slice (a2 0) (n2 0) (c2 0),.slice (a2 1) (n2 1) (c2 1),.slice (a2 2) (n2 2) (c2 2),.int .i64 v3,.int .i64 v4,.int .i64 v5,.int .i64 v6,.slice (a2 7) (n2 7) (c2 7),.slice (a2 8) (n2 8) (c2 8),.slice (a2 9) (n2 9) (c2 9),.slice (a2 10) (n2 10) (c2 10),.slice (a2 11) (n2 11) (c2 11)] 47)) := kT _ _ _ _ _ t2 (fun c _ hc => get_old _ _ hc) (by omega)
 have q0 : W0 (.slice pa pn pc) x3.heap.size (x4.alloc (.cells #[.slice (a2 0) (n2 0) (c2 0),.slice (a2 1) (n2 1) (c2 1),.slice (a2 2) (n2 2) (c2 2),.int .i64 v3,.int .i64 v4,.int .i64 v5,.int .i64 v6,.slice (a2 7) (n2 7) (c2 7),.slice (a2 8) (n2 8) (c2 8),.slice (a2 9) (n2 9) (c2 9),.slice (a2 10) (n2 10) (c2 10),.slice (a2 11) (n2 11) (c2 11)] 47)) := kW _ _ _ _ p0 (fun c hc => get_old _ _ (by omega)) (by omega)
 generalize (x4.alloc (.cells #[.slice (a2 0) (n2 0) (c2 0),.slice (a2 1) (n2 1) (c2 1),.slice (a2 2) (n2 2) (c2 2),.int .i64 v3,.int .i64 v4,.int .i64 v5,.int .i64 v6,.slice (a2 7) (n2 7) (c2 7),.slice (a2 8) (n2 8) (c2 8),.slice (a2 9) (n2 9) (c2 9),.slice (a2 10) (n2 10) (c2 10),.slice (a2 11) (n2 11) (c2 11)] 47)) = z at *
 clear B1 L t2 p0
 have B1 := C1
 have L := L6
 have t2 := u2
 have p0 := q0
 clear C1 L6 u2 q0
 replace Z : w.heap.size + 1 ≤ z.heap.size := by omega
 refine (hIm _ _ _ z L t2).mono ?_
 rintro e x5 ⟨ga,gn,gc,rfl,hx5,gx⟩
 have hsx5 := hx5.size
 replace B1 := (hx5.block w.heap.size (by omega)).trans B1
 replace L := L.trans (hx5.mono (by omega : w.heap.size ≤ z.heap.size))
 replace Z : w.heap.size + 1 ≤ x5.heap.size := by omega
 replace B6 := (hx5.block x4.heap.size (by omega)).trans B6
 replace t2 := kT _ _ _ _ _ t2 (fun c _ hc => hx5.block c (by omega)) hx5.size
 replace p0 := kW _ _ _ _ p0 (fun c hc => hx5.block c (by omega)) hx5.size
 go_wp2_with (fail)
 go_at_call 8
 refine (hEp _ _ _ _ _ x5 L gx p0).mono ?_
 rintro e x6 ⟨rfl,hx6⟩
 have hsx6 := hx6.size
 replace B1 := (hx6.block w.heap.size (by omega)).trans B1
 replace L := L.trans (hx6.mono (by omega : w.heap.size ≤ x5.heap.size))
 replace Z : w.heap.size + 1 ≤ x6.heap.size := by omega
 replace B6 := (hx6.block x4.heap.size (by omega)).trans B6
 replace t2 := kT _ _ _ _ _ t2 (fun c _ hc => hx6.block c (by omega)) hx6.size
 replace p0 := kW _ _ _ _ p0 (fun c hc => hx6.block c (by omega)) hx6.size
 replace gx := kG _ _ _ _ _ gx (fun c _ hc => hx6.block c (by omega)) hx6.size
 have g0 : x6.cell? ⟨w.heap.size,0,none⟩ = some (v0) := by simp [World.cell?,B1]
 have g1 : x6.cell? ⟨w.heap.size,1,none⟩ = some (v1) := by simp [World.cell?,B1]
 have g2 : x6.cell? ⟨w.heap.size,2,none⟩ = some (v2) := by simp [World.cell?,B1]
 have g3 : x6.cell? ⟨w.heap.size,3,none⟩ = some (.int .i64 v3) := by simp [World.cell?,B1]
 have g4 : x6.cell? ⟨w.heap.size,4,none⟩ = some (.int .i64 v4) := by simp [World.cell?,B1]
 have g5 : x6.cell? ⟨w.heap.size,5,none⟩ = some (.int .i64 v5) := by simp [World.cell?,B1]
 have g6 : x6.cell? ⟨w.heap.size,6,none⟩ = some (.int .i64 v6) := by simp [World.cell?,B1]
 have g7 : x6.cell? ⟨w.heap.size,7,none⟩ = some (v7) := by simp [World.cell?,B1]
 have g8 : x6.cell? ⟨w.heap.size,8,none⟩ = some (v8) := by simp [World.cell?,B1]
 have g9 : x6.cell? ⟨w.heap.size,9,none⟩ = some (v9) := by simp [World.cell?,B1]
 have g10 : x6.cell? ⟨w.heap.size,10,none⟩ = some (v10) := by simp [World.cell?,B1]
 have g11 : x6.cell? ⟨w.heap.size,11,none⟩ = some (v11) := by simp [World.cell?,B1]
 have s0 : x6.cell? ⟨x4.heap.size,0,none⟩ = some (.slice (a2 0) (n2 0) (c2 0)) := by simp [World.cell?,B6]
 have s1 : x6.cell? ⟨x4.heap.size,1,none⟩ = some (.slice (a2 1) (n2 1) (c2 1)) := by simp [World.cell?,B6]
 have s2 : x6.cell? ⟨x4.heap.size,2,none⟩ = some (.slice (a2 2) (n2 2) (c2 2)) := by simp [World.cell?,B6]
 have s3 : x6.cell? ⟨x4.heap.size,3,none⟩ = some (.int .i64 v3) := by simp [World.cell?,B6]
 have s4 : x6.cell? ⟨x4.heap.size,4,none⟩ = some (.int .i64 v4) := by simp [World.cell?,B6]
 have s5 : x6.cell? ⟨x4.heap.size,5,none⟩ = some (.int .i64 v5) := by simp [World.cell?,B6]
 have s6 : x6.cell? ⟨x4.heap.size,6,none⟩ = some (.int .i64 v6) := by simp [World.cell?,B6]
 have s7 : x6.cell? ⟨x4.heap.size,7,none⟩ = some (.slice (a2 7) (n2 7) (c2 7)) := by simp [World.cell?,B6]
 have s8 : x6.cell? ⟨x4.heap.size,8,none⟩ = some (.slice (a2 8) (n2 8) (c2 8)) := by simp [World.cell?,B6]
 have s9 : x6.cell? ⟨x4.heap.size,9,none⟩ = some (.slice (a2 9) (n2 9) (c2 9)) := by simp [World.cell?,B6]
 have s10 : x6.cell? ⟨x4.heap.size,10,none⟩ = some (.slice (a2 10) (n2 10) (c2 10)) := by simp [World.cell?,B6]
 have s11 : x6.cell? ⟨x4.heap.size,11,none⟩ = some (.slice (a2 11) (n2 11) (c2 11)) := by simp [World.cell?,B6]
 go_wp2_with (fail)
 go_region_held3 (fun w' => w'.cell? ⟨w.heap.size,0,none⟩ = some (v0) ∧ w'.cell? ⟨w.heap.size,1,none⟩ = some (v1) ∧ w'.cell? ⟨w.heap.size,2,none⟩ = some (v2) ∧ w'.cell? ⟨w.heap.size,3,none⟩ = some (.int .i64 v3) ∧ w'.cell? ⟨w.heap.size,4,none⟩ = some (.int .i64 v4) ∧ w'.cell? ⟨w.heap.size,5,none⟩ = some (.int .i64 v5) ∧ w'.cell? ⟨w.heap.size,6,none⟩ = some (.int .i64 v6) ∧ w'.cell? ⟨w.heap.size,7,none⟩ = some (v7) ∧ w'.cell? ⟨w.heap.size,8,none⟩ = some (v8) ∧ w'.cell? ⟨w.heap.size,9,none⟩ = some (v9) ∧ w'.cell? ⟨w.heap.size,10,none⟩ = some (v10) ∧ w'.cell? ⟨w.heap.size,11,none⟩ = some (v11) ∧ w'.cell? ⟨x4.heap.size,0,none⟩ = some (.slice (a2 0) (n2 0) (c2 0)) ∧ w'.cell? ⟨x4.heap.size,1,none⟩ = some (.slice (a2 1) (n2 1) (c2 1)) ∧ w'.cell? ⟨x4.heap.size,2,none⟩ = some (.slice (a2 2) (n2 2) (c2 2)) ∧ w'.cell? ⟨x4.heap.size,3,none⟩ = some (.int .i64 v3) ∧ w'.cell? ⟨x4.heap.size,4,none⟩ = some (.int .i64 v4) ∧ w'.cell? ⟨x4.heap.size,5,none⟩ = some (.int .i64 v5) ∧ w'.cell? ⟨x4.heap.size,6,none⟩ = some (.int .i64 v6) ∧ w'.cell? ⟨x4.heap.size,7,none⟩ = some (.slice (a2 7) (n2 7) (c2 7)) ∧ w'.cell? ⟨x4.heap.size,8,none⟩ = some (.slice (a2 8) (n2 8) (c2 8)) ∧ w'.cell? ⟨x4.heap.size,9,none⟩ = some (.slice (a2 9) (n2 9) (c2 9)) ∧ w'.cell? ⟨x4.heap.size,10,none⟩ = some (.slice (a2 10) (n2 10) (c2 10)) ∧ w'.cell? ⟨x4.heap.size,11,none⟩ = some (.slice (a2 11) (n2 11) (c2 11))) (go_keep)
  (first | (go_at_call 6; refine (hTo _ (Lo.drew L)).mono ?_; rintro e x7 ⟨a3,n3,c3,rfl,hx7,t3⟩; have hs7 : x6.heap.size ≤ x7.heap.size := hx7.size; have L7 : Lo w.heap.size w x7 := (Lo.drew L).trans (hx7.mono (show w.heap.size ≤ x6.heap.size by omega)); have gg0 := (hx7.cell (b := w.heap.size) (j := 0) (show w.heap.size < x6.heap.size by omega)).trans g0; have ss0 := (hx7.cell (b := x4.heap.size) (j := 0) (show x4.heap.size < x6.heap.size by omega)).trans s0; have gg1 := (hx7.cell (b := w.heap.size) (j := 1) (show w.heap.size < x6.heap.size by omega)).trans g1; have ss1 := (hx7.cell (b := x4.heap.size) (j := 1) (show x4.heap.size < x6.heap.size by omega)).trans s1; have gg2 := (hx7.cell (b := w.heap.size) (j := 2) (show w.heap.size < x6.heap.size by omega)).trans g2; have ss2 := (hx7.cell (b := x4.heap.size) (j := 2) (show x4.heap.size < x6.heap.size by omega)).trans s2; have gg3 := (hx7.cell (b := w.heap.size) (j := 3) (show w.heap.size < x6.heap.size by omega)).trans g3; have ss3 := (hx7.cell (b := x4.heap.size) (j := 3) (show x4.heap.size < x6.heap.size by omega)).trans s3; have gg4 := (hx7.cell (b := w.heap.size) (j := 4) (show w.heap.size < x6.heap.size by omega)).trans g4; have ss4 := (hx7.cell (b := x4.heap.size) (j := 4) (show x4.heap.size < x6.heap.size by omega)).trans s4; have gg5 := (hx7.cell (b := w.heap.size) (j := 5) (show w.heap.size < x6.heap.size by omega)).trans g5; have ss5 := (hx7.cell (b := x4.heap.size) (j := 5) (show x4.heap.size < x6.heap.size by omega)).trans s5; have gg6 := (hx7.cell (b := w.heap.size) (j := 6) (show w.heap.size < x6.heap.size by omega)).trans g6; have ss6 := (hx7.cell (b := x4.heap.size) (j := 6) (show x4.heap.size < x6.heap.size by omega)).trans s6; have gg7 := (hx7.cell (b := w.heap.size) (j := 7) (show w.heap.size < x6.heap.size by omega)).trans g7; have ss7 := (hx7.cell (b := x4.heap.size) (j := 7) (show x4.heap.size < x6.heap.size by omega)).trans s7; have gg8 := (hx7.cell (b := w.heap.size) (j := 8) (show w.heap.size < x6.heap.size by omega)).trans g8; have ss8 := (hx7.cell (b := x4.heap.size) (j := 8) (show x4.heap.size < x6.heap.size by omega)).trans s8; have gg9 := (hx7.cell (b := w.heap.size) (j := 9) (show w.heap.size < x6.heap.size by omega)).trans g9; have ss9 := (hx7.cell (b := x4.heap.size) (j := 9) (show x4.heap.size < x6.heap.size by omega)).trans s9; have gg10 := (hx7.cell (b := w.heap.size) (j := 10) (show w.heap.size < x6.heap.size by omega)).trans g10; have ss10 := (hx7.cell (b := x4.heap.size) (j := 10) (show x4.heap.size < x6.heap.size by omega)).trans s10; have gg11 := (hx7.cell (b := w.heap.size) (j := 11) (show w.heap.size < x6.heap.size by omega)).trans g11; have ss11 := (hx7.cell (b := x4.heap.size) (j := 11) (show x4.heap.size < x6.heap.size by omega)).trans s11) | (go_at_call 9; refine (hEs _ _ _ _ _ _ x7 L7 (kT _ _ _ _ _ t2 (fun c _ hc => hx7.block c (show c < x6.heap.size by omega)) hs7) t3).mono ?_; rintro e x8 ⟨rfl,hx8⟩; have hs8 := hx8.size; have gh0 := (hx8.cell (b := w.heap.size) (j := 0) (by omega)).trans gg0; have sh0 := (hx8.cell (b := x4.heap.size) (j := 0) (by omega)).trans ss0; have gh1 := (hx8.cell (b := w.heap.size) (j := 1) (by omega)).trans gg1; have sh1 := (hx8.cell (b := x4.heap.size) (j := 1) (by omega)).trans ss1; have gh2 := (hx8.cell (b := w.heap.size) (j := 2) (by omega)).trans gg2; have sh2 := (hx8.cell (b := x4.heap.size) (j := 2) (by omega)).trans ss2; have gh3 := (hx8.cell (b := w.heap.size) (j := 3) (by omega)).trans gg3; have sh3 := (hx8.cell (b := x4.heap.size) (j := 3) (by omega)).trans ss3; have gh4 := (hx8.cell (b := w.heap.size) (j := 4) (by omega)).trans gg4; have sh4 := (hx8.cell (b := x4.heap.size) (j := 4) (by omega)).trans ss4; have gh5 := (hx8.cell (b := w.heap.size) (j := 5) (by omega)).trans gg5; have sh5 := (hx8.cell (b := x4.heap.size) (j := 5) (by omega)).trans ss5; have gh6 := (hx8.cell (b := w.heap.size) (j := 6) (by omega)).trans gg6; have sh6 := (hx8.cell (b := x4.heap.size) (j := 6) (by omega)).trans ss6; have gh7 := (hx8.cell (b := w.heap.size) (j := 7) (by omega)).trans gg7; have sh7 := (hx8.cell (b := x4.heap.size) (j := 7) (by omega)).trans ss7; have gh8 := (hx8.cell (b := w.heap.size) (j := 8) (by omega)).trans gg8; have sh8 := (hx8.cell (b := x4.heap.size) (j := 8) (by omega)).trans ss8; have gh9 := (hx8.cell (b := w.heap.size) (j := 9) (by omega)).trans gg9; have sh9 := (hx8.cell (b := x4.heap.size) (j := 9) (by omega)).trans ss9; have gh10 := (hx8.cell (b := w.heap.size) (j := 10) (by omega)).trans gg10; have sh10 := (hx8.cell (b := x4.heap.size) (j := 10) (by omega)).trans ss10; have gh11 := (hx8.cell (b := w.heap.size) (j := 11) (by omega)).trans gg11; have sh11 := (hx8.cell (b := x4.heap.size) (j := 11) (by omega)).trans ss11))
 have hh : ∀ c,c < x6.heap.size → x8.heap[c]? = x6.heap[c]? := fun c hc => (hx8.block c (by omega)).trans (hx7.block c hc)
 replace B1 := (hh w.heap.size (by omega)).trans B1
 replace B6 := (hh x4.heap.size (by omega)).trans B6
 replace L : Lo w.heap.size w x8 := L7.trans (hx8.mono (by omega))
 replace Z : w.heap.size + 1 ≤ x8.heap.size := by omega
 replace t2 := kT _ _ _ _ _ t2 (fun c _ hc => hh c (by omega)) (by omega : x6.heap.size ≤ x8.heap.size)
 replace p0 := kW _ _ _ _ p0 (fun c hc => hh c (by omega)) (by omega : x6.heap.size ≤ x8.heap.size)
 replace gx := kG _ _ _ _ _ gx (fun c _ hc => hh c (by omega)) (by omega : x6.heap.size ≤ x8.heap.size)
 go_wp2_with (fail)
 go_at_call 10
 refine (hMk _ _ _ x8 L t2).mono ?_
 rintro e x9 ⟨mk,rfl,hx9⟩
 have hs9 := hx9.size
 replace B1 := (hx9.block w.heap.size (by omega) (by omega)).trans B1
 replace L := Lo.rg L hx9 (fun c hc => by omega) (by omega)
 replace Z : w.heap.size + 1 ≤ x9.heap.size := by omega
 replace p0 := kW _ _ _ _ p0 (fun c hc => hx9.block c (by omega) (by omega)) hx9.size
 replace gx := kG _ _ _ _ _ gx (fun c hc1 hc2 => hx9.block c (by omega) (by omega)) hx9.size
 have hmk : ¬ ((mk : Int) < 0) := by omega
 go_wp2_with (fail)
 go_at_call 8
 refine (hEp _ _ _ _ _ x9 L gx p0).mono ?_
 rintro e x10 ⟨rfl,hx10⟩
 have hsx10 := hx10.size
 replace B1 := (hx10.block w.heap.size (by omega)).trans B1
 replace L := L.trans (hx10.mono (by omega : w.heap.size ≤ x9.heap.size))
 replace Z : w.heap.size + 1 ≤ x10.heap.size := by omega
 replace p0 := kW _ _ _ _ p0 (fun c hc => hx10.block c (by omega)) hx10.size
 replace gx := kG _ _ _ _ _ gx (fun c _ hc => hx10.block c (by omega)) hx10.size
 go_wp2_with (fail)
 go_at_call 11
 refine (hMp _ _ _ x10 L gx).mono ?_
 rintro e x11 ⟨rfl,hx11,gy⟩
 have hs11 := hx11.size
 replace B1 := (hx11.block w.heap.size (by omega) (by omega)).trans B1
 replace L := Lo.rg L hx11 (fun c hc => by omega) (by omega)
 replace Z : w.heap.size + 1 ≤ x11.heap.size := by omega
 replace p0 := kW _ _ _ _ p0 (fun c hc => hx11.block c (by omega) (by omega)) hx11.size
 go_wp2_with (fail)
 go_at_call 12
 refine (hHp _ _ _ x11 L gy).mono ?_
 rintro e x12 ⟨rfl,hx12⟩
 have hsx12 := hx12.size
 replace B1 := (hx12.block w.heap.size (by omega)).trans B1
 replace L := L.trans (hx12.mono (by omega : w.heap.size ≤ x11.heap.size))
 replace Z : w.heap.size + 1 ≤ x12.heap.size := by omega
 replace p0 := kW _ _ _ _ p0 (fun c hc => hx12.block c (by omega)) hx12.size
 replace gy := kG2 _ _ _ _ _ gy (fun c _ hc => hx12.block c (by omega)) hx12.size
 clear g0 s0 gg0 ss0 gh0 sh0 g1 s1 gg1 ss1 gh1 sh1 g2 s2 gg2 ss2 gh2 sh2 g3 s3 gg3 ss3 gh3 sh3 g4 s4 gg4 ss4 gh4 sh4 g5 s5 gg5 ss5 gh5 sh5 g6 s6 gg6 ss6 gh6 sh6 g7 s7 gg7 ss7 gh7 sh7 g8 s8 gg8 ss8 gh8 sh8 g9 s9 gg9 ss9 gh9 sh9 g10 s10 gg10 ss10 gh10 sh10 g11 s11 gg11 ss11 gh11 sh11
 have g0 : x12.cell? ⟨w.heap.size,0,none⟩ = some (v0) := by simp [World.cell?,B1]
 have g1 : x12.cell? ⟨w.heap.size,1,none⟩ = some (v1) := by simp [World.cell?,B1]
 have g2 : x12.cell? ⟨w.heap.size,2,none⟩ = some (v2) := by simp [World.cell?,B1]
 have g3 : x12.cell? ⟨w.heap.size,3,none⟩ = some (.int .i64 v3) := by simp [World.cell?,B1]
 have g4 : x12.cell? ⟨w.heap.size,4,none⟩ = some (.int .i64 v4) := by simp [World.cell?,B1]
 have g5 : x12.cell? ⟨w.heap.size,5,none⟩ = some (.int .i64 v5) := by simp [World.cell?,B1]
 have g6 : x12.cell? ⟨w.heap.size,6,none⟩ = some (.int .i64 v6) := by simp [World.cell?,B1]
 have g7 : x12.cell? ⟨w.heap.size,7,none⟩ = some (v7) := by simp [World.cell?,B1]
 have g8 : x12.cell? ⟨w.heap.size,8,none⟩ = some (v8) := by simp [World.cell?,B1]
 have g9 : x12.cell? ⟨w.heap.size,9,none⟩ = some (v9) := by simp [World.cell?,B1]
 have g10 : x12.cell? ⟨w.heap.size,10,none⟩ = some (v10) := by simp [World.cell?,B1]
 have g11 : x12.cell? ⟨w.heap.size,11,none⟩ = some (v11) := by simp [World.cell?,B1]
 go_wp2_with (fail)
 go_at_call 6
 refine (hTo x12 L).mono ?_
 rintro e x13 ⟨a4,n4,c4,rfl,hx13,t4⟩
 have hsx13 := hx13.size
 replace B1 := (hx13.block w.heap.size (by omega)).trans B1
 replace L := L.trans (hx13.mono (by omega : w.heap.size ≤ x12.heap.size))
 replace Z : w.heap.size + 1 ≤ x13.heap.size := by omega
 replace p0 := kW _ _ _ _ p0 (fun c hc => hx13.block c (by omega)) hx13.size
 replace gy := kG2 _ _ _ _ _ gy (fun c _ hc => hx13.block c (by omega)) hx13.size
 go_wp2_with (fail)
 go_at_call 7
 refine (hIm _ _ _ x13 L t4).mono ?_
 rintro e x14 ⟨ha,hn,hc,rfl,hx14,gz⟩
 have hsx14 := hx14.size
 replace B1 := (hx14.block w.heap.size (by omega)).trans B1
 replace L := L.trans (hx14.mono (by omega : w.heap.size ≤ x13.heap.size))
 replace Z : w.heap.size + 1 ≤ x14.heap.size := by omega
 replace p0 := kW _ _ _ _ p0 (fun c hc => hx14.block c (by omega)) hx14.size
 replace gy := kG2 _ _ _ _ _ gy (fun c _ hc => hx14.block c (by omega)) hx14.size
 go_wp2_with (fail)
 go_at_call 8
 refine (hEp _ _ _ _ _ x14 L gz p0).mono ?_
 rintro e x15 ⟨rfl,hx15⟩
 have hsx15 := hx15.size
 replace B1 := (hx15.block w.heap.size (by omega)).trans B1
 replace L := L.trans (hx15.mono (by omega : w.heap.size ≤ x14.heap.size))
 replace Z : w.heap.size + 1 ≤ x15.heap.size := by omega
 replace p0 := kW _ _ _ _ p0 (fun c hc => hx15.block c (by omega)) hx15.size
 replace gy := kG2 _ _ _ _ _ gy (fun c _ hc => hx15.block c (by omega)) hx15.size
 go_wp2_with (fail)
 go_at_call 12
 refine (hHp _ _ _ x15 L gy).mono ?_
 rintro e x16 ⟨rfl,hx16⟩
 have hsx16 := hx16.size
 replace B1 := (hx16.block w.heap.size (by omega)).trans B1
 replace L := L.trans (hx16.mono (by omega : w.heap.size ≤ x15.heap.size))
 replace Z : w.heap.size + 1 ≤ x16.heap.size := by omega
 replace p0 := kW _ _ _ _ p0 (fun c hc => hx16.block c (by omega)) hx16.size
 go_wp2_with (fail)
 go_ret
 exact ⟨rfl,L⟩⟩
set_option maxHeartbeats 3200000 in
theorem neg_walk : DeskNegWalk Tryz.prog 3 4 := ⟨by
 intro w v0 v1 v2 v7 v8 v9 v10 v11 v3 v4 v5 v6 n hn hSz
 go_enter Tryz.func3,Tryz.ntmps3
 go_wp2_with (fail)
 go_at_call 4
 have L : Lo w.heap.size w (w.alloc (.cells #[v0,v1,v2,.int .i64 v3,.int .i64 v4,.int .i64 v5,.int .i64 v6,v7,v8,v9,v10,v11] 33)) := (Lo.refl _ w).alloc (Nat.le_refl _) _
 refine (hSz _ L).mono ?_
 rintro e x1 ⟨rfl,hx1⟩
 replace L := L.trans (hx1.mono (by simp))
 go_wp2_with (fail)
 go_ret
 exact ⟨rfl,L⟩⟩
end
theorem ok_laws_FnExactDeskReport : FOk Tryz.prog phi 1262 laws_FnExactDeskReport_c := deskLaw_ok laws_FnExactDeskReport_F (g := 1262) (gsz := 239) (gsp := 397) (gim := 396) (gep := 137) (ges := 195) (gmp := 139) (ghp := 136) (gN := 655) (gI := 121) (mI := 45) (g0 := 658) (g1 := 657) (g7 := 120) (g8 := 59) (g9 := 654) (g10 := 653) (g11 := 295) (m0 := 587) (m1 := 586) (m7 := 123) (m8 := 323) (m9 := 584) (m10 := 583) (m11 := 297) law_walk neg_walk to_desk_walk ss_rows_walk mark_desk_walk ss_mark_walk (by kernel_rfl)
 (fun x l n h => callOk_two ok_laws_szDesk h)
 (fun x ps c h => callOk_tok2 ok_spec_DeskReport h)
 (fun x ps c h => callOk_tok2 ok_impl_DeskReport h)
 (fun x y b h => callOk_two ok_laws_eqStringS h)
 (fun x y b h => callOk_two ok_laws_eqDesk h)
 (fun x y h => callOk_one ok_laws_toNeck h)
 (fun x y h => callOk_tok ok_laws_toStackS h)
 (fun x y h => callOk_tok ok_laws_toRibS h)
 (fun x y h => callOk_tok ok_laws_toPegS h)
 (fun x y h => callOk_tok ok_laws_toPotS h)
 (fun x y h => callOk_tok ok_laws_toModeS h)
 (fun x y h => callOk_tok ok_laws_toWorkS h)
 (fun x y h => callOk_tok ok_laws_toPaperS h)
 (fun x y h => callOk_tok ok_laws_toInt64S h)
 (fun x m m2 y h => callOk_ios ok_laws_markStackS h)
 (fun x m m2 y h => callOk_ios ok_laws_markRibS h)
 (fun x m m2 y h => callOk_ios ok_laws_markPegS h)
 (fun x m m2 y h => callOk_ios ok_laws_markPotS h)
 (fun x m m2 y h => callOk_ios ok_laws_markModeS h)
 (fun x m m2 y h => callOk_ios ok_laws_markWorkS h)
 (fun x m m2 y h => callOk_ios ok_laws_markPaperS h)
 (fun x m m2 y h => callOk_ios ok_laws_markInt64S h)
 (fun x m m2 y h => callOk_ios ok_laws_markStringS h)
 (fun x m m2 h => callOk_two ok_laws_heldStringS h)
theorem law : ∀ x,wfU laws_FnExactDeskReport_c.ps x → ∃ y,laws_FnExactDeskReport_c.f x = some y ∧ resA laws_FnExactDeskReport_c y = ([A.bool true],[]) := fun x hx => ⟨true,(by classical exact if_pos (laws_FnExactDeskReport_true x.1 hx.1)),rfl⟩
theorem own : ownKnob Tryz.prog.godebug = none := by kernel_rfl
theorem laid : laidOutB Tryz.prog = true := by kernel_rfl
theorem reads : ∀ t ∈ Tryz.f3.params.toList,Tryz.prog.readableRec t = true ∧ t < Tryz.prog.types.size := by
 have h : (Tryz.f3.params.toList.all fun t => Tryz.prog.readableRec t && decide (t < Tryz.prog.types.size)) = true := by kernel_rfl
 intro t ht
 have := List.all_eq_true.1 h t ht
 simpa only [Bool.and_eq_true,decide_eq_true_eq] using this
theorem spec_eq (H : Type) : ∀ (ds : List (DataW H)),ds.length = Tryz.f3.params.toList.length → Rows.fnExactDeskReportSpec.fn H ds = { results := [.lit (.bool true)],args := ds } := by
 intro ds hd
 have hd : ds.length = 1 := hd
 match ds,hd with
 | [d0],_ => rfl
theorem tab (W : World) (hL : laidMetH Tryz.prog Rows.fnExactDeskReportRow.laid W) : ∀ i,Tryz.prog.globalNamed pow10Name = some i → Lib.TabIs Tryz.prog W pow10Name .u64 Lib.pow10Tab := by
 intro i hi
 have hp : (Rows.fnExactDeskReportRow.laid.all fun x => x.2.handleName?.isNone) = true := by kernel_rfl
 rw [MakeChecks.laidMetH_plain _ _ _ hp] at hL
 have h1 : laidMet Tryz.prog (("internal/strconv.uint64pow10",Rows.laid_internal_strconv_uint64pow10) :: []) W := (laidMet.tail (laidMet.tail hL))
 have e : (Rows.laid_internal_strconv_uint64pow10 : DataW Unit) = Lib.tabData .u64 Lib.pow10Tab := by kernel_rfl
 rw [e] at h1
 exact Lib.tabIs_of_head (t := 181) (e := 173) (n := 20) hi (by obtain rfl := Option.some.inj ((show Tryz.prog.globalNamed pow10Name = some 0 by kernel_rfl).symm.trans hi); kernel_rfl) (by kernel_rfl) (by kernel_rfl) (by kernel_rfl) (by kernel_rfl) h1
theorem errs (W : World) (hL : laidMetH Tryz.prog Rows.fnExactDeskReportRow.laid W) : ∀ n,errNames.contains n = true → ∀ i,Tryz.prog.globalNamed n = some i → ∃ u v,W.var? Tryz.prog n = some #[.iface u v] := by
 intro n hn i hi
 have hn : n = "strconv.ErrSyntax" ∨ n = "strconv.ErrRange" := by simpa [errNames] using hn
 rcases hn with rfl | rfl
 ·have h : Tryz.prog.globalNamed "strconv.ErrSyntax" = none := by kernel_rfl
  rw [h] at hi; cases hi
 ·have h : Tryz.prog.globalNamed "strconv.ErrRange" = none := by kernel_rfl
  rw [h] at hi; cases hi
theorem contract (H : Type) (enc : TypeId × Value → H) (W : World) (base : Nat) (args : Array Value) (ds gs : List (DataW H)) (before : List MemPlace)
 (hval : ∀ (j : Nat) t v,Tryz.f3.params[j]? = some t → args[j]? = some v → Value.okWide Tryz.prog W .any base t v)
 (hW : DataW.Whole enc Tryz.prog Tryz.f3.params.toList Rows.fnExactDeskReportSpec.vars false W args.toList ds gs before) (hL : laidMetH Tryz.prog Rows.fnExactDeskReportRow.laid W) (hsh : W.ShapedOpen Tryz.prog) :
 Calls Tryz.prog 3 args W fun e W' => ∃ v,e = .returned v ∧ Rows.fnExactDeskReportSpec.post enc Tryz.prog Tryz.f3 false true false false W args v W' :=
 row_contract (φ := phi) (g := 1262) (n := 20) ok_laws_FnExactDeskReport rfl rfl (tb := 4) Tryz.underlying4 (by kernel_rfl) rfl law laid reads spec_eq W base args ds gs before hval hW (Glob.start hsh (tab W hL) (errs W hL))
theorem lifted (os : Os) (started : os.Started) (H : Type) (enc : TypeId × Value → H) :
 ReturnsInHanded {} Tryz.checked os 3 .any (fun w args => (Rows.fnExactDeskReportSpec.pre enc Tryz.prog Tryz.f3 Rows.fnExactDeskReportRow.domain false w args ∧ laidMetH Tryz.prog Rows.fnExactDeskReportRow.laid w) ∧ sizedMet enc Tryz.prog Tryz.f3 (OpenSpec.ofChange Rows.fnExactDeskReportSpec) false w args) (Rows.fnExactDeskReportSpec.post enc Tryz.prog Tryz.f3 false true false false) := by
 refine returnsInHanded_laid (C := Tryz.checked) (laid := Rows.fnExactDeskReportRow.laid) own started (by kernel_rfl) Tryz.func3
  (ChangeSpec.witness_shaped (enc := enc) (C := Tryz.checked) (os := os) (X := fun w _ => laidMetH Tryz.prog Rows.fnExactDeskReportRow.laid w) false (World.laidAll Tryz.prog os Rows.fnExactDeskReportRow.laid) #[.agg #[.slice none 0 0,.slice none 0 0,.slice none 0 0,.int .i64 0,.int .i64 0,.int .i64 0,.int .i64 0,.slice none 0 0,.slice none 0 0,.slice none 0 0,.slice none 0 0,.slice none 0 0]] 12 (World.laidAll_os _ _ _)
    (World.shaped_of_ZipB (by kernel_rfl) (by kernel_rfl)) (by kernel_rfl) (by kernel_rfl) (by kernel_rfl)
    (by rw [MakeChecks.laidMetH_plain _ _ _ (by kernel_rfl)]; exact laidMet_laidAll _ (by kernel_rfl) (by kernel_rfl))) ?_
 intro W base args ds gs before hval hW hL hsh
 exact contract H enc W base args ds gs before hval hW hL hsh
theorem over : Rows.fnExactDeskReportRow.holds Tryz.pinned (OpenSpec.ofChange Rows.fnExactDeskReportSpec) :=
 OpenClaim.holds_of_wide 3 Tryz.f3 rfl rfl rfl rfl rfl rfl rfl ⟨rfl,rfl,rfl,rfl,rfl⟩ rfl rfl rfl rfl rfl (by kernel_rfl) Tryz.func3 (by kernel_rfl)
  (of_decide_eq_true (by kernel_rfl)) (by unfold Func.isWrapper; first | (rw [if_pos (by decide +kernel)]; kernel_rfl) | (rw [if_neg (by decide +kernel)]; exact ⟨rfl,rfl⟩))
  (fun os started H enc _ => lifted os started H enc)
theorem card : Rows.FnExactDeskReportCardSaid :=
 Claim7.holds_tied_plain_at .later [] [.data,.data,.data] true (true,"5200b4a2b5f33e7f990280d0041d281d1de2fc568a567ca4ca306433a9770aa0") false over (fun _ h => by cases h) (by kernel_rfl) (fun _ h => by cases h) fnExactDeskReport_row_tie rfl ⟨rfl,rfl⟩ (by kernel_rfl) rfl
  (fun f fn hf hfn => by
    obtain rfl : f = 3 := Option.some.inj ((show Tryz.prog.funcNamed "loop.example/g01061/laws.FnExactDeskReport" = some 3 by kernel_rfl).symm.trans hf) |>.symm
    obtain rfl : fn = Tryz.f3 := (Option.some.inj (Tryz.func3.symm.trans hfn)).symm
    exact ⟨by kernel_rfl,fun j t ht => by
     have hm : t ∈ Tryz.f3.params.toList := by simpa using Array.mem_of_getElem? ht
     have hall : (Tryz.f3.params.toList.all fun u => !Tryz.prog.wantsStandIn u) = true := by kernel_rfl
     exact (show Tryz.prog.wantsStandIn t = false by simpa using List.all_eq_true.1 hall t hm)⟩)
  (by kernel_rfl)
theorem proved : Rows.FnExactDeskReportCardSaid := card
end Go.Proofs.YtihgbmhhcalejaaGreatDoor.fnExactDeskReport
