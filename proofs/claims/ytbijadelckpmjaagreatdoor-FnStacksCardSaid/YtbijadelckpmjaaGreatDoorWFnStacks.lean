/- The law FnStacks answers true for every input, whatever it is, and leaves its arguments as they were. Conditions: none. -/
import Derived.Test.YtbijadelckpmjaaGreatDoorQFnStacks
import Derived.Test.YtbijadelckpmjaaGreatDoorRows
import Derived.Test.YtbijadelckpmjaaGreatDoorL5
import Derived.Test.YtbijadelckpmjaaGreatDoorShelf
import Derived.Test.YtbijadelckpmjaaGreatDoorCards
import Derived.Test.YtbijadelckpmjaaGreatDoorTie
import Derived.LaidMore
import Derived.Lay
import Derived.SevenTiedAt
import Derived.Stop.Joined
import Derived.WalkKit
import Derived.ProofKit
import Derived.OpenShut
import Derived.JoinedOf
import Derived.Handed
set_option linter.unusedVariables false
set_option maxRecDepth 100000
namespace Go.Proofs.YtbijadelckpmjaaGreatDoor.fnStacks
open Go.Ab Go.Ab.P
open Go.ChangeShapes Go.WideShapes Go.ChangeAt Go.RowKit
def phiL : List (Nat × Nat) := [(76, 6), (441, 43), (847, 114), (463, 83), (642, 84), (445, 52), (479, 73), (487, 74), (417, 29), (23, 58), (483, 53), (484, 75), (27, 59), (452, 127), (486, 106), (849, 107), (482, 76), (416, 30), (11, 123), (12, 124), (13, 94), (1, 97), (490, 78), (850, 108), (851, 109), (492, 77), (491, 79), (16, 99), (853, 111), (488, 81), (852, 110), (489, 80), (111, 31), (480, 112), (481, 113), (821, 82), (415, 32), (22, 122), (21, 103), (24, 92), (682, 86), (485, 90), (713, 85), (414, 33), (71, 34), (864, 133), (524, 120), (630, 126), (460, 101), (459, 61), (680, 131), (681, 132), (263, 119), (518, 134), (668, 121), (260, 91), (412, 36), (683, 115), (458, 87), (522, 116), (457, 88), (673, 117), (262, 118), (261, 89), (413, 35), (69, 37), (411, 38), (410, 39), (409, 40), (408, 41), (90, 42), (1232, 5)]
def phi (n : Nat) : Nat := (phiL.lookup n).getD 1000000
theorem hm : Tryz.prog.follows .mixedOrders = true := by kernel_rfl
theorem ck_laws_b10Long : chkFn Tryz.prog phi 76 laws_b10Long_ir = true := by kernel_rfl
theorem ok_laws_b10Long : FOk Tryz.prog phi 76 laws_b10Long_c := fn_ok hm (D := laws_b10Long_D) DOk.nil ck_laws_b10Long _ _ _ _
theorem ck_spec_l00From : chkFn Tryz.prog phi 441 spec_l00From_ir = true := by kernel_rfl
theorem ok_spec_l00From : FOk Tryz.prog phi 441 spec_l00From_c := fn_ok hm (D := spec_l00From_D) DOk.nil ck_spec_l00From _ _ _ _
theorem ck_spec_l00Src_next : chkFn Tryz.prog phi 847 spec_l00Src_next_ir = true := by kernel_rfl
theorem ok_spec_l00Src_next : FOk Tryz.prog phi 847 spec_l00Src_next_c := fn_ok hm (D := spec_l00Src_next_D) DOk.nil ck_spec_l00Src_next _ _ _ _
theorem ck_spec_l00Src_pick : chkFn Tryz.prog phi 463 spec_l00Src_pick_ir = true := by kernel_rfl
theorem ok_spec_l00Src_pick : FOk Tryz.prog phi 463 spec_l00Src_pick_c := fn_ok hm (D := spec_l00Src_pick_D) (DOk.cons ok_spec_l00Src_next DOk.nil) ck_spec_l00Src_pick _ _ _ _
theorem ck_spec_l00Src_one : chkFn Tryz.prog phi 642 spec_l00Src_one_ir = true := by kernel_rfl
theorem ok_spec_l00Src_one : FOk Tryz.prog phi 642 spec_l00Src_one_c := fn_ok hm (D := spec_l00Src_one_D) (DOk.cons ok_spec_l00Src_pick DOk.nil) ck_spec_l00Src_one _ _ _ _
theorem ck_spec_l00Src_among : chkFn Tryz.prog phi 445 spec_l00Src_among_ir = true := by kernel_rfl
theorem ok_spec_l00Src_among : FOk Tryz.prog phi 445 spec_l00Src_among_c := fn_ok hm (D := spec_l00Src_among_D) (DOk.cons ok_spec_l00Src_pick DOk.nil) ck_spec_l00Src_among _ _ _ _
theorem ck_spec_l04DrawShare : chkFn Tryz.prog phi 479 spec_l04DrawShare_ir = true := by kernel_rfl
theorem ok_spec_l04DrawShare : FOk Tryz.prog phi 479 spec_l04DrawShare_c := fn_ok hm (D := spec_l04DrawShare_D) (DOk.cons ok_spec_l00Src_among (DOk.cons ok_spec_l00Src_pick (DOk.cons ok_spec_l00Src_one DOk.nil))) ck_spec_l04DrawShare _ _ _ _
theorem ck_spec_l04DrawGoal : chkFn Tryz.prog phi 487 spec_l04DrawGoal_ir = true := by kernel_rfl
theorem ok_spec_l04DrawGoal : FOk Tryz.prog phi 487 spec_l04DrawGoal_c := fn_ok hm (D := spec_l04DrawGoal_D) (DOk.cons ok_spec_l00Src_among (DOk.cons ok_spec_l00Src_pick (DOk.cons ok_spec_l00Src_one DOk.nil))) ck_spec_l04DrawGoal _ _ _ _
theorem ck_spec_DrawThickToDry : chkFn Tryz.prog phi 417 spec_DrawThickToDry_ir = true := by kernel_rfl
theorem ok_spec_DrawThickToDry : FOk Tryz.prog phi 417 spec_DrawThickToDry_c := fn_ok hm (D := spec_DrawThickToDry_D) (DOk.cons ok_spec_l00From (DOk.cons ok_spec_l00Src_among (DOk.cons ok_spec_l04DrawShare (DOk.cons ok_spec_l04DrawGoal DOk.nil)))) ck_spec_DrawThickToDry _ _ _ _
theorem ck_impl_within : chkFn Tryz.prog phi 23 impl_within_ir = true := by kernel_rfl
theorem ok_impl_within : FOk Tryz.prog phi 23 impl_within_c := fn_ok hm (D := impl_within_D) DOk.nil ck_impl_within _ _ _ _
theorem ck_impl_isPart : chkFn Tryz.prog phi 483 impl_isPart_ir = true := by kernel_rfl
theorem ok_impl_isPart : FOk Tryz.prog phi 483 impl_isPart_c := fn_ok hm (D := impl_isPart_D) (DOk.cons ok_impl_within DOk.nil) ck_impl_isPart _ _ _ _
theorem ck_impl_isDry : chkFn Tryz.prog phi 484 impl_isDry_ir = true := by kernel_rfl
theorem ok_impl_isDry : FOk Tryz.prog phi 484 impl_isDry_c := fn_ok hm (D := impl_isDry_D) (DOk.cons ok_impl_within DOk.nil) ck_impl_isDry _ _ _ _
theorem ck_impl_divRound : chkFn Tryz.prog phi 27 impl_divRound_ir = true := by kernel_rfl
theorem ok_impl_divRound : FOk Tryz.prog phi 27 impl_divRound_c := fn_ok hm (D := impl_divRound_D) DOk.nil ck_impl_divRound _ _ _ _
theorem ck_impl_blend : chkFn Tryz.prog phi 452 impl_blend_ir = true := by kernel_rfl
theorem ok_impl_blend : FOk Tryz.prog phi 452 impl_blend_c := fn_ok hm (D := impl_blend_D) (DOk.cons ok_impl_divRound DOk.nil) ck_impl_blend _ _ _ _
theorem ck_impl_even : chkFn Tryz.prog phi 486 impl_even_ir = true := by kernel_rfl
theorem ok_impl_even : FOk Tryz.prog phi 486 impl_even_c := fn_ok hm (D := impl_even_D) (DOk.cons ok_impl_blend DOk.nil) ck_impl_even _ _ _ _
theorem ck_impl_change : chkFn Tryz.prog phi 849 impl_change_ir = true := by kernel_rfl
theorem ok_impl_change : FOk Tryz.prog phi 849 impl_change_c := fn_ok hm (D := impl_change_D) (DOk.cons ok_impl_divRound DOk.nil) ck_impl_change _ _ _ _
theorem ck_impl_Stack_after : chkFn Tryz.prog phi 482 impl_Stack_after_ir = true := by kernel_rfl
theorem ok_impl_Stack_after : FOk Tryz.prog phi 482 impl_Stack_after_c := fn_ok hm (D := impl_Stack_after_D) (DOk.cons ok_impl_even (DOk.cons ok_impl_change DOk.nil)) ck_impl_Stack_after _ _ _ _
theorem ck_impl_ThickToDry : chkFn Tryz.prog phi 416 impl_ThickToDry_ir = true := by kernel_rfl
theorem ok_impl_ThickToDry : FOk Tryz.prog phi 416 impl_ThickToDry_c := fn_ok hm (D := impl_ThickToDry_D) (DOk.cons ok_impl_Stack_after (DOk.cons ok_impl_isPart (DOk.cons ok_impl_isDry DOk.nil))) ck_impl_ThickToDry _ _ _ _
theorem ck_spec_l01Small : chkFn Tryz.prog phi 11 spec_l01Small_ir = true := by kernel_rfl
theorem ok_spec_l01Small : FOk Tryz.prog phi 11 spec_l01Small_c := fn_ok hm (D := spec_l01Small_D) DOk.nil ck_spec_l01Small _ _ _ _
theorem ck_spec_l01Digit : chkFn Tryz.prog phi 12 spec_l01Digit_ir = true := by kernel_rfl
theorem ok_spec_l01Digit : FOk Tryz.prog phi 12 spec_l01Digit_c := fn_ok hm (D := spec_l01Digit_D) DOk.nil ck_spec_l01Digit _ _ _ _
theorem ck_spec_l01Name : chkFn Tryz.prog phi 13 spec_l01Name_ir = true := by kernel_rfl
theorem ok_spec_l01Name : FOk Tryz.prog phi 13 spec_l01Name_c := fn_ok hm (D := spec_l01Name_D) (DOk.cons ok_spec_l01Small (DOk.cons ok_spec_l01Digit DOk.nil)) ck_spec_l01Name _ _ _ _
theorem ck_spec_l00In : chkFn Tryz.prog phi 1 spec_l00In_ir = true := by kernel_rfl
theorem ok_spec_l00In : FOk Tryz.prog phi 1 spec_l00In_c := fn_ok hm (D := spec_l00In_D) DOk.nil ck_spec_l00In _ _ _ _
theorem ck_spec_l04Share : chkFn Tryz.prog phi 490 spec_l04Share_ir = true := by kernel_rfl
theorem ok_spec_l04Share : FOk Tryz.prog phi 490 spec_l04Share_c := fn_ok hm (D := spec_l04Share_D) (DOk.cons ok_spec_l00In DOk.nil) ck_spec_l04Share _ _ _ _
theorem ck_spec_l04Thick : chkFn Tryz.prog phi 850 spec_l04Thick_ir = true := by kernel_rfl
theorem ok_spec_l04Thick : FOk Tryz.prog phi 850 spec_l04Thick_c := fn_ok hm (D := spec_l04Thick_D) (DOk.cons ok_spec_l00In DOk.nil) ck_spec_l04Thick _ _ _ _
theorem ck_spec_l02Day : chkFn Tryz.prog phi 851 spec_l02Day_ir = true := by kernel_rfl
theorem ok_spec_l02Day : FOk Tryz.prog phi 851 spec_l02Day_c := fn_ok hm (D := spec_l02Day_D) (DOk.cons ok_spec_l00In DOk.nil) ck_spec_l02Day _ _ _ _
theorem ck_spec_l04One : chkFn Tryz.prog phi 492 spec_l04One_ir = true := by kernel_rfl
theorem ok_spec_l04One : FOk Tryz.prog phi 492 spec_l04One_c := fn_ok hm (D := spec_l04One_D) (DOk.cons ok_spec_l01Name (DOk.cons ok_spec_l04Share (DOk.cons ok_spec_l04Thick (DOk.cons ok_spec_l02Day DOk.nil)))) ck_spec_l04One _ _ _ _
theorem ck_spec_l04Days : chkFn Tryz.prog phi 491 spec_l04Days_ir = true := by kernel_rfl
theorem ok_spec_l04Days : FOk Tryz.prog phi 491 spec_l04Days_c := fn_ok hm (D := spec_l04Days_D) (DOk.cons ok_spec_l00In DOk.nil) ck_spec_l04Days _ _ _ _
theorem ck_spec_l01Div : chkFn Tryz.prog phi 16 spec_l01Div_ir = true := by kernel_rfl
theorem ok_spec_l01Div : FOk Tryz.prog phi 16 spec_l01Div_c := fn_ok hm (D := spec_l01Div_D) DOk.nil ck_spec_l01Div _ _ _ _
theorem ck_spec_l01Line : chkFn Tryz.prog phi 853 spec_l01Line_ir = true := by kernel_rfl
theorem ok_spec_l01Line : FOk Tryz.prog phi 853 spec_l01Line_c := fn_ok hm (D := spec_l01Line_D) (DOk.cons ok_spec_l01Div DOk.nil) ck_spec_l01Line _ _ _ _
theorem ck_spec_l04Even : chkFn Tryz.prog phi 488 spec_l04Even_ir = true := by kernel_rfl
theorem ok_spec_l04Even : FOk Tryz.prog phi 488 spec_l04Even_c := fn_ok hm (D := spec_l04Even_D) (DOk.cons ok_spec_l01Line DOk.nil) ck_spec_l04Even _ _ _ _
theorem ck_spec_l04Change : chkFn Tryz.prog phi 852 spec_l04Change_ir = true := by kernel_rfl
theorem ok_spec_l04Change : FOk Tryz.prog phi 852 spec_l04Change_c := fn_ok hm (D := spec_l04Change_D) (DOk.cons ok_spec_l01Div DOk.nil) ck_spec_l04Change _ _ _ _
theorem ck_spec_l04After : chkFn Tryz.prog phi 489 spec_l04After_ir = true := by kernel_rfl
theorem ok_spec_l04After : FOk Tryz.prog phi 489 spec_l04After_c := fn_ok hm (D := spec_l04After_D) (DOk.cons ok_spec_l04Change DOk.nil) ck_spec_l04After _ _ _ _
theorem ck_spec_MoistureAfter : chkFn Tryz.prog phi 111 spec_MoistureAfter_ir = true := by kernel_rfl
theorem ok_spec_MoistureAfter : FOk Tryz.prog phi 111 spec_MoistureAfter_c := fn_ok hm (D := spec_MoistureAfter_D) (DOk.cons ok_spec_l04Even (DOk.cons ok_spec_l04After (DOk.cons ok_spec_l04Share (DOk.cons ok_spec_l04Days (DOk.cons ok_spec_l04One DOk.nil))))) ck_spec_MoistureAfter _ _ _ _
theorem ck_spec_l04DrawOne : chkFn Tryz.prog phi 480 spec_l04DrawOne_ir = true := by kernel_rfl
theorem ok_spec_l04DrawOne : FOk Tryz.prog phi 480 spec_l04DrawOne_c := fn_ok hm (D := spec_l04DrawOne_D) (DOk.cons ok_spec_l00Src_pick DOk.nil) ck_spec_l04DrawOne _ _ _ _
theorem ck_spec_l04Bent : chkFn Tryz.prog phi 481 spec_l04Bent_ir = true := by kernel_rfl
theorem ok_spec_l04Bent : FOk Tryz.prog phi 481 spec_l04Bent_c := fn_ok hm (D := spec_l04Bent_D) (DOk.cons ok_spec_l00Src_among (DOk.cons ok_spec_l00Src_pick DOk.nil)) ck_spec_l04Bent _ _ _ _
theorem ck_spec_l04Draw : chkFn Tryz.prog phi 821 spec_l04Draw_ir = true := by kernel_rfl
theorem ok_spec_l04Draw : FOk Tryz.prog phi 821 spec_l04Draw_c := fn_ok hm (D := spec_l04Draw_D) (DOk.cons ok_spec_l00Src_among (DOk.cons ok_spec_l00Src_pick (DOk.cons ok_spec_l04DrawOne (DOk.cons ok_spec_l04Bent (DOk.cons ok_spec_l00Src_one DOk.nil))))) ck_spec_l04Draw _ _ _ _
theorem ck_spec_DrawReadyStacks : chkFn Tryz.prog phi 415 spec_DrawReadyStacks_ir = true := by kernel_rfl
theorem ok_spec_DrawReadyStacks : FOk Tryz.prog phi 415 spec_DrawReadyStacks_c := fn_ok hm (D := spec_DrawReadyStacks_D) (DOk.cons ok_spec_l00From (DOk.cons ok_spec_l00Src_among (DOk.cons ok_spec_l00Src_pick (DOk.cons ok_spec_l04DrawShare (DOk.cons ok_spec_l04DrawGoal (DOk.cons ok_spec_l00Src_one (DOk.cons ok_spec_l04Draw DOk.nil))))))) ck_spec_DrawReadyStacks _ _ _ _
theorem ck_impl_isDigit : chkFn Tryz.prog phi 22 impl_isDigit_ir = true := by kernel_rfl
theorem ok_impl_isDigit : FOk Tryz.prog phi 22 impl_isDigit_c := fn_ok hm (D := impl_isDigit_D) DOk.nil ck_impl_isDigit _ _ _ _
theorem ck_impl_few : chkFn Tryz.prog phi 21 impl_few_ir = true := by kernel_rfl
theorem ok_impl_few : FOk Tryz.prog phi 21 impl_few_c := fn_ok hm (D := impl_few_D) DOk.nil ck_impl_few _ _ _ _
theorem ck_impl_IsName : chkFn Tryz.prog phi 24 impl_IsName_ir = true := by kernel_rfl
theorem ok_impl_IsName : FOk Tryz.prog phi 24 impl_IsName_c := fn_ok hm (D := impl_IsName_D) (DOk.cons ok_impl_few (DOk.cons ok_impl_isDigit DOk.nil)) ck_impl_IsName _ _ _ _
theorem ck_impl_isDay : chkFn Tryz.prog phi 682 impl_isDay_ir = true := by kernel_rfl
theorem ok_impl_isDay : FOk Tryz.prog phi 682 impl_isDay_c := fn_ok hm (D := impl_isDay_D) (DOk.cons ok_impl_within DOk.nil) ck_impl_isDay _ _ _ _
theorem ck_impl_Stack_valid : chkFn Tryz.prog phi 485 impl_Stack_valid_ir = true := by kernel_rfl
theorem ok_impl_Stack_valid : FOk Tryz.prog phi 485 impl_Stack_valid_c := fn_ok hm (D := impl_Stack_valid_D) (DOk.cons ok_impl_within (DOk.cons ok_impl_IsName (DOk.cons ok_impl_isPart (DOk.cons ok_impl_isDay DOk.nil)))) ck_impl_Stack_valid _ _ _ _
theorem ck_impl_ValidStacks : chkFn Tryz.prog phi 713 impl_ValidStacks_ir = true := by kernel_rfl
theorem ok_impl_ValidStacks : FOk Tryz.prog phi 713 impl_ValidStacks_c := fn_ok hm (D := impl_ValidStacks_D) (DOk.cons ok_impl_few (DOk.cons ok_impl_Stack_valid DOk.nil)) ck_impl_ValidStacks _ _ _ _
theorem ck_impl_ReadyStacks : chkFn Tryz.prog phi 414 impl_ReadyStacks_ir = true := by kernel_rfl
theorem ok_impl_ReadyStacks : FOk Tryz.prog phi 414 impl_ReadyStacks_c := fn_ok hm (D := impl_ReadyStacks_D) (DOk.cons ok_impl_Stack_after (DOk.cons ok_impl_isPart (DOk.cons ok_impl_isDry (DOk.cons ok_impl_isDay (DOk.cons ok_impl_ValidStacks DOk.nil))))) ck_impl_ReadyStacks _ _ _ _
theorem ck_laws_b10Rises : chkFn Tryz.prog phi 71 laws_b10Rises_ir = true := by kernel_rfl
theorem ok_laws_b10Rises : FOk Tryz.prog phi 71 laws_b10Rises_c := fn_ok hm (D := laws_b10Rises_D) DOk.nil ck_laws_b10Rises _ _ _ _
theorem ok_strconv_FormatInt : FOk Tryz.prog phi 864 strconv_FormatInt_c := formatInt_ok Tryz.laysM173 ⟨3, by kernel_rfl⟩ (by kernel_rfl)
theorem ck_impl_Decimal : chkFn Tryz.prog phi 524 impl_Decimal_ir = true := by kernel_rfl
theorem ok_impl_Decimal : FOk Tryz.prog phi 524 impl_Decimal_c := fn_ok hm (D := impl_Decimal_D) (DOk.cons ok_strconv_FormatInt DOk.nil) ck_impl_Decimal _ _ _ _
theorem ok_strings_Join : FOk Tryz.prog phi 630 strings_Join_c := join_ok Tryz.lays156 Tryz.Builder_Extra_156 (by kernel_rfl)
theorem ck_impl_ListText : chkFn Tryz.prog phi 460 impl_ListText_ir = true := by kernel_rfl
theorem ok_impl_ListText : FOk Tryz.prog phi 460 impl_ListText_c := fn_ok hm (D := impl_ListText_D) (DOk.cons ok_impl_few (DOk.cons ok_impl_within (DOk.cons ok_impl_Decimal (DOk.cons ok_strings_Join DOk.nil)))) ck_impl_ListText _ _ _ _
theorem ck_impl_named : chkFn Tryz.prog phi 459 impl_named_ir = true := by kernel_rfl
theorem ok_impl_named : FOk Tryz.prog phi 459 impl_named_c := fn_ok hm (D := impl_named_D) (DOk.cons ok_impl_ListText DOk.nil) ck_impl_named _ _ _ _
theorem ck_impl_monthDays : chkFn Tryz.prog phi 680 impl_monthDays_ir = true := by kernel_rfl
theorem ok_impl_monthDays : FOk Tryz.prog phi 680 impl_monthDays_c := fn_ok hm (D := impl_monthDays_D) DOk.nil ck_impl_monthDays _ _ _ _
theorem ck_impl_yearDays : chkFn Tryz.prog phi 681 impl_yearDays_ir = true := by kernel_rfl
theorem ok_impl_yearDays : FOk Tryz.prog phi 681 impl_yearDays_c := fn_ok hm (D := impl_yearDays_D) (DOk.cons ok_impl_monthDays DOk.nil) ck_impl_yearDays _ _ _ _
theorem ck_impl_DateOf : chkFn Tryz.prog phi 263 impl_DateOf_ir = true := by kernel_rfl
theorem ok_impl_DateOf : FOk Tryz.prog phi 263 impl_DateOf_c := fn_ok hm (D := impl_DateOf_D) (DOk.cons ok_impl_monthDays (DOk.cons ok_impl_yearDays (DOk.cons ok_impl_isDay DOk.nil))) ck_impl_DateOf _ _ _ _
theorem ok_strings_Repeat : FOk Tryz.prog phi 518 strings_Repeat_c := repeat_ok Tryz.lays105 Tryz.Builder_Extra_105 (by kernel_rfl)
theorem ck_impl_padded : chkFn Tryz.prog phi 668 impl_padded_ir = true := by kernel_rfl
theorem ok_impl_padded : FOk Tryz.prog phi 668 impl_padded_c := fn_ok hm (D := impl_padded_D) (DOk.cons ok_strings_Repeat (DOk.cons ok_impl_Decimal DOk.nil)) ck_impl_padded _ _ _ _
theorem ck_impl_DateText : chkFn Tryz.prog phi 260 impl_DateText_ir = true := by kernel_rfl
theorem ok_impl_DateText : FOk Tryz.prog phi 260 impl_DateText_c := fn_ok hm (D := impl_DateText_D) (DOk.cons ok_impl_DateOf (DOk.cons ok_impl_Decimal (DOk.cons ok_impl_padded DOk.nil))) ck_impl_DateText _ _ _ _
theorem ck_impl_StackText : chkFn Tryz.prog phi 412 impl_StackText_ir = true := by kernel_rfl
theorem ok_impl_StackText : FOk Tryz.prog phi 412 impl_StackText_c := fn_ok hm (D := impl_StackText_D) (DOk.cons ok_impl_DateText (DOk.cons ok_impl_named (DOk.cons ok_impl_Stack_valid DOk.nil))) ck_impl_StackText _ _ _ _
theorem ok_strings_Split : FOk Tryz.prog phi 683 strings_Split_c := split_ok Tryz.laysM146 (of_decide_eq_true (by kernel_rfl)) (by kernel_rfl)
theorem ck_impl_SplitWords : chkFn Tryz.prog phi 458 impl_SplitWords_ir = true := by kernel_rfl
theorem ok_impl_SplitWords : FOk Tryz.prog phi 458 impl_SplitWords_c := fn_ok hm (D := impl_SplitWords_D) (DOk.cons ok_strings_Split DOk.nil) ck_impl_SplitWords _ _ _ _
section
open Go.Lib
theorem rd_long (s : ByteArray) (w : World) (hl : 18 < (Lib.trimPrefix s.data.toList [45]).length) :
    Calls Tryz.prog 116 #[.string s] w fun e w' => e = .returned (.tuple #[.int .i64 0, .bool false]) ∧ Below w.heap.size w w' := by
  go_enter Tryz.func116, Tryz.ntmps116
  go_wp2_with (go_at_call 129; refine (Tryz.strings_TrimPrefix _ _ _).mono ?_; rintro e w' ⟨rfl, rfl⟩)
  all_goals first
    | (exfalso; omega)
    | (go_ret2; exact ⟨rfl, Below.refl _ _⟩)
theorem rd_bad (s : ByteArray) (w : World) (hl : ¬ 18 < (Lib.trimPrefix s.data.toList [45]).length) (m : Int) (u : TypeId) (hP : Calls Tryz.prog 130 #[.string s, .int .i64 10, .int .i64 64] w fun e w' => ∃ x, e = .returned (.tuple #[.int .i64 m, .iface u x]) ∧ Below w.heap.size w w') :
    Calls Tryz.prog 116 #[.string s] w fun e w' => e = .returned (.tuple #[.int .i64 0, .bool false]) ∧ Below w.heap.size w w' := by
  go_enter Tryz.func116, Tryz.ntmps116
  go_wp2_with (first | (go_at_call 129; refine (Tryz.strings_TrimPrefix _ _ _).mono ?_; rintro e w' ⟨rfl, rfl⟩) | (go_at_call 130; refine hP.mono ?_; rintro e w1 ⟨x, rfl, hw1⟩))
  all_goals first
    | (exfalso; omega)
    | (go_ret2; exact ⟨rfl, hw1⟩)
theorem rd_ok (s : ByteArray) (w : World) (hl : ¬ 18 < (Lib.trimPrefix s.data.toList [45]).length) (v : Int) (hs : Lib.itoa v = s.data.toList) (hP : Calls Tryz.prog 130 #[.string s, .int .i64 10, .int .i64 64] w fun e w' => e = .returned (.tuple #[.int .i64 v, .nilIface]) ∧ Below w.heap.size w w')
    (hF : ∀ w', Below w.heap.size w w' → Calls Tryz.prog 133 #[.int .i64 v, .int .i64 10] w' fun e w'' => e = .returned (.string ⟨(Lib.itoa v).toArray⟩) ∧ Below w'.heap.size w' w'') :
    Calls Tryz.prog 116 #[.string s] w fun e w' => e = .returned (.tuple #[.int .i64 v, .bool true]) ∧ Below w.heap.size w w' := by
  have HS := Lib.hid hs; clear hs
  go_enter Tryz.func116, Tryz.ntmps116
  go_wp2_with (first | (go_at_call 129; refine (Tryz.strings_TrimPrefix _ _ _).mono ?_; rintro e w' ⟨rfl, rfl⟩) | (go_at_call 130; refine hP.mono ?_; rintro e w1 ⟨rfl, hw1⟩) | (go_at_call 133; refine (hF _ hw1).mono ?_; rintro e w2 ⟨rfl, hw2⟩) | go_in)
  all_goals first
    | (exfalso; omega)
    | skip
  · rename_i h
    exfalso
    rw [HS.out] at h
    simp [Lib.toList_data] at h
  · go_ret2; exact ⟨rfl, hw1.trans (hw2.mono hw1.size)⟩
theorem rd_no (s : ByteArray) (w : World) (hl : ¬ 18 < (Lib.trimPrefix s.data.toList [45]).length) (v : Int) (hs : Lib.itoa v ≠ s.data.toList) (hP : Calls Tryz.prog 130 #[.string s, .int .i64 10, .int .i64 64] w fun e w' => e = .returned (.tuple #[.int .i64 v, .nilIface]) ∧ Below w.heap.size w w')
    (hF : ∀ w', Below w.heap.size w w' → Calls Tryz.prog 133 #[.int .i64 v, .int .i64 10] w' fun e w'' => e = .returned (.string ⟨(Lib.itoa v).toArray⟩) ∧ Below w'.heap.size w' w'') :
    Calls Tryz.prog 116 #[.string s] w fun e w' => e = .returned (.tuple #[.int .i64 0, .bool false]) ∧ Below w.heap.size w w' := by
  have HS := Lib.hid hs; clear hs
  go_enter Tryz.func116, Tryz.ntmps116
  go_wp2_with (first | (go_at_call 129; refine (Tryz.strings_TrimPrefix _ _ _).mono ?_; rintro e w' ⟨rfl, rfl⟩) | (go_at_call 130; refine hP.mono ?_; rintro e w1 ⟨rfl, hw1⟩) | (go_at_call 133; refine (hF _ hw1).mono ?_; rintro e w2 ⟨rfl, hw2⟩) | go_in)
  all_goals first
    | (exfalso; omega)
    | skip
  · go_ret2; exact ⟨rfl, hw1.trans (hw2.mono hw1.size)⟩
  · rename_i h
    exfalso
    apply HS.out
    simpa [Lib.toList_data] using h
end
theorem rd_walk : RdWalk Tryz.prog 116 130 133 := ⟨⟨_, Tryz.func116, by decide +kernel, rfl⟩, rd_long, rd_bad, rd_ok, rd_no⟩
theorem ok_impl_ReadDecimal : FOk Tryz.prog phi 522 impl_ReadDecimal_c := readDecimal_ok Tryz.laysC174 Tryz.laysM173 ⟨3, by kernel_rfl⟩ (by kernel_rfl) (by kernel_rfl) rd_walk (by kernel_rfl)
theorem ck_impl_ReadList : chkFn Tryz.prog phi 457 impl_ReadList_ir = true := by kernel_rfl
theorem ok_impl_ReadList : FOk Tryz.prog phi 457 impl_ReadList_c := fn_ok hm (D := impl_ReadList_D) (DOk.cons ok_impl_within (DOk.cons ok_impl_ReadDecimal (DOk.cons ok_strings_Split DOk.nil))) ck_impl_ReadList _ _ _ _
theorem ck_impl_digitsOf : chkFn Tryz.prog phi 673 impl_digitsOf_ir = true := by kernel_rfl
theorem ok_impl_digitsOf : FOk Tryz.prog phi 673 impl_digitsOf_c := fn_ok hm (D := impl_digitsOf_D) (DOk.cons ok_impl_isDigit DOk.nil) ck_impl_digitsOf _ _ _ _
theorem ck_impl_DayNumber : chkFn Tryz.prog phi 262 impl_DayNumber_ir = true := by kernel_rfl
theorem ok_impl_DayNumber : FOk Tryz.prog phi 262 impl_DayNumber_c := fn_ok hm (D := impl_DayNumber_D) (DOk.cons ok_impl_within (DOk.cons ok_impl_monthDays (DOk.cons ok_impl_yearDays DOk.nil))) ck_impl_DayNumber _ _ _ _
theorem ck_impl_ReadDate : chkFn Tryz.prog phi 261 impl_ReadDate_ir = true := by kernel_rfl
theorem ok_impl_ReadDate : FOk Tryz.prog phi 261 impl_ReadDate_c := fn_ok hm (D := impl_ReadDate_D) (DOk.cons ok_impl_DateText (DOk.cons ok_impl_DayNumber (DOk.cons ok_impl_digitsOf (DOk.cons ok_strings_Split DOk.nil)))) ck_impl_ReadDate _ _ _ _
theorem ck_impl_ReadStack : chkFn Tryz.prog phi 413 impl_ReadStack_ir = true := by kernel_rfl
theorem ok_impl_ReadStack : FOk Tryz.prog phi 413 impl_ReadStack_c := fn_ok hm (D := impl_ReadStack_D) (DOk.cons ok_impl_ReadDate (DOk.cons ok_impl_StackText (DOk.cons ok_impl_ReadList (DOk.cons ok_impl_SplitWords DOk.nil)))) ck_impl_ReadStack _ _ _ _
theorem ck_laws_b10Has : chkFn Tryz.prog phi 69 laws_b10Has_ir = true := by kernel_rfl
theorem ok_laws_b10Has : FOk Tryz.prog phi 69 laws_b10Has_c := fn_ok hm (D := laws_b10Has_D) DOk.nil ck_laws_b10Has _ _ _ _
theorem ck_spec_DrawOldestStack : chkFn Tryz.prog phi 411 spec_DrawOldestStack_ir = true := by kernel_rfl
theorem ok_spec_DrawOldestStack : FOk Tryz.prog phi 411 spec_DrawOldestStack_c := fn_ok hm (D := spec_DrawOldestStack_D) (DOk.cons ok_spec_l00From (DOk.cons ok_spec_l00Src_among (DOk.cons ok_spec_l00Src_pick (DOk.cons ok_spec_l00Src_one (DOk.cons ok_spec_l04Draw DOk.nil))))) ck_spec_DrawOldestStack _ _ _ _
theorem ck_impl_OldestStack : chkFn Tryz.prog phi 410 impl_OldestStack_ir = true := by kernel_rfl
theorem ok_impl_OldestStack : FOk Tryz.prog phi 410 impl_OldestStack_c := fn_ok hm (D := impl_OldestStack_D) (DOk.cons ok_impl_isDay (DOk.cons ok_impl_ValidStacks DOk.nil)) ck_impl_OldestStack _ _ _ _
theorem ck_spec_DrawShrunkTo : chkFn Tryz.prog phi 409 spec_DrawShrunkTo_ir = true := by kernel_rfl
theorem ok_spec_DrawShrunkTo : FOk Tryz.prog phi 409 spec_DrawShrunkTo_c := fn_ok hm (D := spec_DrawShrunkTo_D) (DOk.cons ok_spec_l00From (DOk.cons ok_spec_l00Src_among (DOk.cons ok_spec_l04DrawShare (DOk.cons ok_spec_l04DrawGoal DOk.nil)))) ck_spec_DrawShrunkTo _ _ _ _
theorem ck_impl_ShrunkTo : chkFn Tryz.prog phi 408 impl_ShrunkTo_ir = true := by kernel_rfl
theorem ok_impl_ShrunkTo : FOk Tryz.prog phi 408 impl_ShrunkTo_c := fn_ok hm (D := impl_ShrunkTo_D) (DOk.cons ok_impl_within (DOk.cons ok_impl_divRound (DOk.cons ok_impl_isPart DOk.nil))) ck_impl_ShrunkTo _ _ _ _
theorem ck_laws_b10Div : chkFn Tryz.prog phi 90 laws_b10Div_ir = true := by kernel_rfl
theorem ok_laws_b10Div_N : ∀ n, FOk Tryz.prog phi 90 (laws_b10Div_N n)
  | 0 => FOk.none (fn_ok hm (D := []) DOk.nil ck_laws_b10Div [] [] [] []).1
  | n + 1 => by rw [laws_b10Div_N_eq]; exact fn_ok hm (D := laws_b10Div_D n) (DOk.cons (ok_laws_b10Div_N n) DOk.nil) ck_laws_b10Div _ _ _ _
theorem ok_laws_b10Div : FOk Tryz.prog phi 90 laws_b10Div_c := ok_laws_b10Div_N 1000
theorem ck_laws_FnStacks : chkFn Tryz.prog phi 1232 laws_FnStacks_ir = true := by kernel_rfl
theorem ok_laws_FnStacks : FOk Tryz.prog phi 1232 laws_FnStacks_c := fn_ok hm (D := laws_FnStacks_D) (DOk.cons ok_laws_b10Has (DOk.cons ok_laws_b10Rises (DOk.cons ok_laws_b10Long (DOk.cons ok_laws_b10Div (DOk.cons ok_spec_MoistureAfter (DOk.cons ok_impl_ShrunkTo (DOk.cons ok_spec_DrawShrunkTo (DOk.cons ok_impl_OldestStack (DOk.cons ok_spec_DrawOldestStack (DOk.cons ok_impl_StackText (DOk.cons ok_impl_ReadStack (DOk.cons ok_impl_ReadyStacks (DOk.cons ok_spec_DrawReadyStacks (DOk.cons ok_impl_ThickToDry (DOk.cons ok_spec_DrawThickToDry DOk.nil))))))))))))))) ck_laws_FnStacks _ _ _ _
theorem law : ∀ x, wfU laws_FnStacks_c.ps x → ∃ y, laws_FnStacks_c.f x = some y ∧ resA laws_FnStacks_c y = ([A.bool true], []) := fun x hx => ⟨true, (laws_FnStacks_true x.1 x.2.1 hx.1 hx.2.1), rfl⟩
theorem own : ownKnob Tryz.prog.godebug = none := by kernel_rfl
theorem laid : laidOutB Tryz.prog = true := by kernel_rfl
theorem reads : ∀ t ∈ Tryz.f5.params.toList, Tryz.prog.readableRec t = true ∧ t < Tryz.prog.types.size := by
  have h : (Tryz.f5.params.toList.all fun t => Tryz.prog.readableRec t && decide (t < Tryz.prog.types.size)) = true := by kernel_rfl
  intro t ht
  have := List.all_eq_true.1 h t ht
  simpa only [Bool.and_eq_true, decide_eq_true_eq] using this
theorem spec_eq (H : Type) : ∀ (ds : List (DataW H)), ds.length = Tryz.f5.params.toList.length → Rows.fnStacksSpec.fn H ds = { results := [.lit (.bool true)], args := ds } := by
  intro ds hd
  have hd : ds.length = 2 := hd
  match ds, hd with
  | [d0, d1], _ => rfl
theorem tab (W : World) (hL : laidMetH Tryz.prog Rows.fnStacksRow.laid W) : ∀ i, Tryz.prog.globalNamed pow10Name = some i → Lib.TabIs Tryz.prog W pow10Name .u64 Lib.pow10Tab := by
  intro i hi
  have hp : (Rows.fnStacksRow.laid.all fun x => x.2.handleName?.isNone) = true := by kernel_rfl
  rw [MakeChecks.laidMetH_plain _ _ _ hp] at hL
  have h1 : laidMet Tryz.prog (("internal/strconv.uint64pow10", Rows.laid_internal_strconv_uint64pow10) :: [("unicode/utf8.acceptRanges", Rows.laid_unicode_utf8_acceptRanges), ("strconv.ErrRange", Rows.laid_strconv_ErrRange), ("strconv.ErrSyntax", Rows.laid_strconv_ErrSyntax), ("unicode/utf8.first", Rows.laid_unicode_utf8_first)]) W := (laidMet.tail (laidMet.tail hL))
  have e : (Rows.laid_internal_strconv_uint64pow10 : DataW Unit) = Lib.tabData .u64 Lib.pow10Tab := by kernel_rfl
  rw [e] at h1
  exact Lib.tabIs_of_head (t := 189) (e := 112) (n := 20) hi (by obtain rfl := Option.some.inj ((show Tryz.prog.globalNamed pow10Name = some 3 by kernel_rfl).symm.trans hi); kernel_rfl) (by kernel_rfl) (by kernel_rfl) (by kernel_rfl) (by kernel_rfl) h1
theorem errs (W : World) (hL : laidMetH Tryz.prog Rows.fnStacksRow.laid W) : ∀ n, errNames.contains n = true → ∀ i, Tryz.prog.globalNamed n = some i → ∃ u v, W.var? Tryz.prog n = some #[.iface u v] := by
  intro n hn i hi
  have hn : n = "strconv.ErrSyntax" ∨ n = "strconv.ErrRange" := by simpa [errNames] using hn
  have hp : (Rows.fnStacksRow.laid.all fun x => x.2.handleName?.isNone) = true := by kernel_rfl
  rw [MakeChecks.laidMetH_plain _ _ _ hp] at hL
  rcases hn with rfl | rfl
  · have h1 : laidMet Tryz.prog (("strconv.ErrSyntax", Rows.laid_strconv_ErrSyntax) :: [("unicode/utf8.first", Rows.laid_unicode_utf8_first)]) W := (laidMet.tail (laidMet.tail (laidMet.tail (laidMet.tail (laidMet.tail hL)))))
    exact laid_iface (ti := 137) h1 ⟨_, _, rfl⟩ hi (by obtain rfl := Option.some.inj ((show Tryz.prog.globalNamed "strconv.ErrSyntax" = some 1 by kernel_rfl).symm.trans hi); kernel_rfl) Tryz.underlying137
  · have h1 : laidMet Tryz.prog (("strconv.ErrRange", Rows.laid_strconv_ErrRange) :: [("strconv.ErrSyntax", Rows.laid_strconv_ErrSyntax), ("unicode/utf8.first", Rows.laid_unicode_utf8_first)]) W := (laidMet.tail (laidMet.tail (laidMet.tail (laidMet.tail hL))))
    exact laid_iface (ti := 137) h1 ⟨_, _, rfl⟩ hi (by obtain rfl := Option.some.inj ((show Tryz.prog.globalNamed "strconv.ErrRange" = some 2 by kernel_rfl).symm.trans hi); kernel_rfl) Tryz.underlying137
theorem contract (H : Type) (enc : TypeId × Value → H) (W : World) (base : Nat) (args : Array Value) (ds gs : List (DataW H)) (before : List MemPlace)
    (hval : ∀ (j : Nat) t v, Tryz.f5.params[j]? = some t → args[j]? = some v → Value.okWide Tryz.prog W .any base t v)
    (hW : DataW.Whole enc Tryz.prog Tryz.f5.params.toList Rows.fnStacksSpec.vars false W args.toList ds gs before) (hL : laidMetH Tryz.prog Rows.fnStacksRow.laid W) (hsh : W.ShapedOpen Tryz.prog) :
    Calls Tryz.prog 5 args W fun e W' => ∃ v, e = .returned v ∧ Rows.fnStacksSpec.post enc Tryz.prog Tryz.f5 false true false false W args v W' :=
  row_contract (φ := phi) (g := 1232) (n := 20) ok_laws_FnStacks rfl rfl (tb := 4) Tryz.underlying4 (by kernel_rfl) rfl law laid reads spec_eq W base args ds gs before hval hW (Glob.start hsh (tab W hL) (errs W hL))
theorem lifted (os : Os) (started : os.Started) (H : Type) (enc : TypeId × Value → H) :
    ReturnsInHanded {} Tryz.checked os 5 .any (fun w args => (Rows.fnStacksSpec.pre enc Tryz.prog Tryz.f5 Rows.fnStacksRow.domain false w args ∧ laidMetH Tryz.prog Rows.fnStacksRow.laid w) ∧ sizedMet enc Tryz.prog Tryz.f5 (OpenSpec.ofChange Rows.fnStacksSpec) false w args) (Rows.fnStacksSpec.post enc Tryz.prog Tryz.f5 false true false false) := by
  refine returnsInHanded_laid (C := Tryz.checked) (laid := Rows.fnStacksRow.laid) own started (by kernel_rfl) Tryz.func5
    (ChangeSpec.witness_shaped (enc := enc) (C := Tryz.checked) (os := os) (X := fun w _ => laidMetH Tryz.prog Rows.fnStacksRow.laid w) false (World.laidAll Tryz.prog os Rows.fnStacksRow.laid) #[.slice none 0 0, .slice none 0 0] 12 (World.laidAll_os _ _ _)
      (World.shaped_of_ZipB (by kernel_rfl) (by kernel_rfl)) (by kernel_rfl) (by kernel_rfl) (by kernel_rfl)
      (by rw [MakeChecks.laidMetH_plain _ _ _ (by kernel_rfl)]; exact laidMet_laidAll _ (by kernel_rfl) (by kernel_rfl))) ?_
  intro W base args ds gs before hval hW hL hsh
  exact contract H enc W base args ds gs before hval hW hL hsh
theorem over : Rows.fnStacksRow.holds Tryz.pinned (OpenSpec.ofChange Rows.fnStacksSpec) :=
  OpenClaim.holds_of_wide 5 Tryz.f5 rfl rfl rfl rfl rfl rfl rfl ⟨rfl, rfl, rfl, rfl, rfl⟩ rfl rfl rfl rfl rfl (by kernel_rfl) Tryz.func5 (by kernel_rfl)
    (of_decide_eq_true (by kernel_rfl)) (by unfold Func.isWrapper; first | (rw [if_pos (by decide +kernel)]; kernel_rfl) | (rw [if_neg (by decide +kernel)]; exact ⟨rfl, rfl⟩))
    (fun os started H enc _ => lifted os started H enc)
theorem card : Rows.FnStacksCardSaid :=
  Claim7.holds_tied_plain_at .later [] [.data, .data, .data, .data, .sentinel, .sentinel, .pinned] true (true, "9b7772904419ea9a85f5da0650d787911d8a6b1e215ee7587b799541be605f0a") true over (fun _ h => by cases h) (by kernel_rfl) (fun _ h => by cases h) fnStacks_row_tie rfl ⟨rfl, rfl⟩ (by kernel_rfl) rfl
    (fun f fn hf hfn => by
      obtain rfl : f = 5 := Option.some.inj ((show Tryz.prog.funcNamed "loop.example/g01061/laws.FnStacks" = some 5 by kernel_rfl).symm.trans hf) |>.symm
      obtain rfl : fn = Tryz.f5 := (Option.some.inj (Tryz.func5.symm.trans hfn)).symm
      exact ⟨by kernel_rfl, fun j t ht => by
        have hm : t ∈ Tryz.f5.params.toList := by simpa using Array.mem_of_getElem? ht
        have hall : (Tryz.f5.params.toList.all fun u => !Tryz.prog.wantsStandIn u) = true := by kernel_rfl
        exact (show Tryz.prog.wantsStandIn t = false by simpa using List.all_eq_true.1 hall t hm)⟩)
    (by kernel_rfl)
/-- The statement. -/
theorem proved : Rows.FnStacksCardSaid := card
end Go.Proofs.YtbijadelckpmjaaGreatDoor.fnStacks
