/- The law FnGlue answers true for every input, whatever it is, and leaves its arguments as they were. Conditions: none. -/
import Derived.Test.YtbijadelckpmjaaGreatDoorQFnGlue
import Derived.Test.YtbijadelckpmjaaGreatDoorRows
import Derived.Test.YtbijadelckpmjaaGreatDoorL5
import Derived.Test.YtbijadelckpmjaaGreatDoorShelf
import Derived.Test.YtbijadelckpmjaaGreatDoorCards
import Derived.Test.YtbijadelckpmjaaGreatDoorTie
import Derived.LaidMore
import Derived.Lay
import Derived.SevenTiedAt
import Derived.Stop.Joined
import Derived.WalkKit
import Derived.ProofKit
import Derived.OpenShut
import Derived.JoinedOf
import Derived.Handed
set_option linter.unusedVariables false
set_option maxRecDepth 100000
namespace Go.Proofs.YtbijadelckpmjaaGreatDoor.fnGlue
open Go.Ab Go.Ab.P
open Go.ChangeShapes Go.WideShapes Go.ChangeAt Go.RowKit
def phiL : List (Nat × Nat) := [(76, 6), (441, 43), (847, 114), (463, 83), (558, 45), (445, 52), (559, 44), (642, 84), (561, 46), (560, 47), (332, 7), (22, 122), (21, 103), (24, 92), (23, 58), (25, 93), (26, 57), (30, 48), (36, 49), (29, 50), (27, 59), (28, 51), (37, 8), (32, 9), (331, 10), (483, 53), (54, 54), (330, 11), (11, 123), (12, 124), (13, 94), (1, 97), (14, 95), (15, 96), (20, 55), (16, 99), (17, 98), (50, 56), (177, 12), (329, 13), (328, 14), (327, 15), (864, 133), (524, 120), (630, 126), (460, 101), (459, 61), (325, 17), (523, 100), (683, 115), (522, 116), (457, 88), (747, 60), (326, 16), (1231, 3)]
def phi (n : Nat) : Nat := (phiL.lookup n).getD 1000000
theorem hm : Tryz.prog.follows .mixedOrders = true := by kernel_rfl
theorem ck_laws_b10Long : chkFn Tryz.prog phi 76 laws_b10Long_ir = true := by kernel_rfl
theorem ok_laws_b10Long : FOk Tryz.prog phi 76 laws_b10Long_c := fn_ok hm (D := laws_b10Long_D) DOk.nil ck_laws_b10Long _ _ _ _
theorem ck_spec_l00From : chkFn Tryz.prog phi 441 spec_l00From_ir = true := by kernel_rfl
theorem ok_spec_l00From : FOk Tryz.prog phi 441 spec_l00From_c := fn_ok hm (D := spec_l00From_D) DOk.nil ck_spec_l00From _ _ _ _
theorem ck_spec_l00Src_next : chkFn Tryz.prog phi 847 spec_l00Src_next_ir = true := by kernel_rfl
theorem ok_spec_l00Src_next : FOk Tryz.prog phi 847 spec_l00Src_next_c := fn_ok hm (D := spec_l00Src_next_D) DOk.nil ck_spec_l00Src_next _ _ _ _
theorem ck_spec_l00Src_pick : chkFn Tryz.prog phi 463 spec_l00Src_pick_ir = true := by kernel_rfl
theorem ok_spec_l00Src_pick : FOk Tryz.prog phi 463 spec_l00Src_pick_c := fn_ok hm (D := spec_l00Src_pick_D) (DOk.cons ok_spec_l00Src_next DOk.nil) ck_spec_l00Src_pick _ _ _ _
theorem ck_spec_l14DrawOne : chkFn Tryz.prog phi 558 spec_l14DrawOne_ir = true := by kernel_rfl
theorem ok_spec_l14DrawOne : FOk Tryz.prog phi 558 spec_l14DrawOne_c := fn_ok hm (D := spec_l14DrawOne_D) (DOk.cons ok_spec_l00Src_pick DOk.nil) ck_spec_l14DrawOne _ _ _ _
theorem ck_spec_l00Src_among : chkFn Tryz.prog phi 445 spec_l00Src_among_ir = true := by kernel_rfl
theorem ok_spec_l00Src_among : FOk Tryz.prog phi 445 spec_l00Src_among_c := fn_ok hm (D := spec_l00Src_among_D) (DOk.cons ok_spec_l00Src_pick DOk.nil) ck_spec_l00Src_among _ _ _ _
theorem ck_spec_l14Bent : chkFn Tryz.prog phi 559 spec_l14Bent_ir = true := by kernel_rfl
theorem ok_spec_l14Bent : FOk Tryz.prog phi 559 spec_l14Bent_c := fn_ok hm (D := spec_l14Bent_D) (DOk.cons ok_spec_l00Src_among (DOk.cons ok_spec_l00Src_pick DOk.nil)) ck_spec_l14Bent _ _ _ _
theorem ck_spec_l00Src_one : chkFn Tryz.prog phi 642 spec_l00Src_one_ir = true := by kernel_rfl
theorem ok_spec_l00Src_one : FOk Tryz.prog phi 642 spec_l00Src_one_c := fn_ok hm (D := spec_l00Src_one_D) (DOk.cons ok_spec_l00Src_pick DOk.nil) ck_spec_l00Src_one _ _ _ _
theorem ck_spec_l14DrawSeconds : chkFn Tryz.prog phi 561 spec_l14DrawSeconds_ir = true := by kernel_rfl
theorem ok_spec_l14DrawSeconds : FOk Tryz.prog phi 561 spec_l14DrawSeconds_c := fn_ok hm (D := spec_l14DrawSeconds_D) (DOk.cons ok_spec_l00Src_among (DOk.cons ok_spec_l00Src_pick (DOk.cons ok_spec_l00Src_one DOk.nil))) ck_spec_l14DrawSeconds _ _ _ _
theorem ck_spec_l14DrawRoom : chkFn Tryz.prog phi 560 spec_l14DrawRoom_ir = true := by kernel_rfl
theorem ok_spec_l14DrawRoom : FOk Tryz.prog phi 560 spec_l14DrawRoom_c := fn_ok hm (D := spec_l14DrawRoom_D) (DOk.cons ok_spec_l00Src_among DOk.nil) ck_spec_l14DrawRoom _ _ _ _
theorem ck_spec_DrawWaterFor : chkFn Tryz.prog phi 332 spec_DrawWaterFor_ir = true := by kernel_rfl
theorem ok_spec_DrawWaterFor : FOk Tryz.prog phi 332 spec_DrawWaterFor_c := fn_ok hm (D := spec_DrawWaterFor_D) (DOk.cons ok_spec_l00From (DOk.cons ok_spec_l14DrawOne (DOk.cons ok_spec_l14Bent (DOk.cons ok_spec_l14DrawRoom (DOk.cons ok_spec_l14DrawSeconds DOk.nil))))) ck_spec_DrawWaterFor _ _ _ _
theorem ck_impl_isDigit : chkFn Tryz.prog phi 22 impl_isDigit_ir = true := by kernel_rfl
theorem ok_impl_isDigit : FOk Tryz.prog phi 22 impl_isDigit_c := fn_ok hm (D := impl_isDigit_D) DOk.nil ck_impl_isDigit _ _ _ _
theorem ck_impl_few : chkFn Tryz.prog phi 21 impl_few_ir = true := by kernel_rfl
theorem ok_impl_few : FOk Tryz.prog phi 21 impl_few_c := fn_ok hm (D := impl_few_D) DOk.nil ck_impl_few _ _ _ _
theorem ck_impl_IsName : chkFn Tryz.prog phi 24 impl_IsName_ir = true := by kernel_rfl
theorem ok_impl_IsName : FOk Tryz.prog phi 24 impl_IsName_c := fn_ok hm (D := impl_IsName_D) (DOk.cons ok_impl_few (DOk.cons ok_impl_isDigit DOk.nil)) ck_impl_IsName _ _ _ _
theorem ck_impl_within : chkFn Tryz.prog phi 23 impl_within_ir = true := by kernel_rfl
theorem ok_impl_within : FOk Tryz.prog phi 23 impl_within_c := fn_ok hm (D := impl_within_D) DOk.nil ck_impl_within _ _ _ _
theorem ck_impl_isGrams : chkFn Tryz.prog phi 25 impl_isGrams_ir = true := by kernel_rfl
theorem ok_impl_isGrams : FOk Tryz.prog phi 25 impl_isGrams_c := fn_ok hm (D := impl_isGrams_D) (DOk.cons ok_impl_within DOk.nil) ck_impl_isGrams _ _ _ _
theorem ck_impl_isHeat : chkFn Tryz.prog phi 26 impl_isHeat_ir = true := by kernel_rfl
theorem ok_impl_isHeat : FOk Tryz.prog phi 26 impl_isHeat_c := fn_ok hm (D := impl_isHeat_D) (DOk.cons ok_impl_within DOk.nil) ck_impl_isHeat _ _ _ _
theorem ck_impl_Pot_valid : chkFn Tryz.prog phi 30 impl_Pot_valid_ir = true := by kernel_rfl
theorem ok_impl_Pot_valid : FOk Tryz.prog phi 30 impl_Pot_valid_c := fn_ok hm (D := impl_Pot_valid_D) (DOk.cons ok_impl_within (DOk.cons ok_impl_IsName (DOk.cons ok_impl_isGrams (DOk.cons ok_impl_isHeat DOk.nil)))) ck_impl_Pot_valid _ _ _ _
theorem ck_impl_isSeconds : chkFn Tryz.prog phi 36 impl_isSeconds_ir = true := by kernel_rfl
theorem ok_impl_isSeconds : FOk Tryz.prog phi 36 impl_isSeconds_c := fn_ok hm (D := impl_isSeconds_D) (DOk.cons ok_impl_within DOk.nil) ck_impl_isSeconds _ _ _ _
theorem ck_impl_isRoom : chkFn Tryz.prog phi 29 impl_isRoom_ir = true := by kernel_rfl
theorem ok_impl_isRoom : FOk Tryz.prog phi 29 impl_isRoom_c := fn_ok hm (D := impl_isRoom_D) (DOk.cons ok_impl_within DOk.nil) ck_impl_isRoom _ _ _ _
theorem ck_impl_divRound : chkFn Tryz.prog phi 27 impl_divRound_ir = true := by kernel_rfl
theorem ok_impl_divRound : FOk Tryz.prog phi 27 impl_divRound_c := fn_ok hm (D := impl_divRound_D) DOk.nil ck_impl_divRound _ _ _ _
theorem ck_impl_Pot_open : chkFn Tryz.prog phi 28 impl_Pot_open_ir = true := by kernel_rfl
theorem ok_impl_Pot_open : FOk Tryz.prog phi 28 impl_Pot_open_c := fn_ok hm (D := impl_Pot_open_D) (DOk.cons ok_impl_divRound DOk.nil) ck_impl_Pot_open _ _ _ _
theorem ck_impl_WaterFor : chkFn Tryz.prog phi 37 impl_WaterFor_ir = true := by kernel_rfl
theorem ok_impl_WaterFor : FOk Tryz.prog phi 37 impl_WaterFor_c := fn_ok hm (D := impl_WaterFor_D) (DOk.cons ok_impl_Pot_open (DOk.cons ok_impl_isRoom (DOk.cons ok_impl_Pot_valid (DOk.cons ok_impl_isSeconds DOk.nil)))) ck_impl_WaterFor _ _ _ _
theorem ck_impl_OpenSeconds : chkFn Tryz.prog phi 32 impl_OpenSeconds_ir = true := by kernel_rfl
theorem ok_impl_OpenSeconds : FOk Tryz.prog phi 32 impl_OpenSeconds_c := fn_ok hm (D := impl_OpenSeconds_D) (DOk.cons ok_impl_Pot_open (DOk.cons ok_impl_isRoom (DOk.cons ok_impl_Pot_valid DOk.nil))) ck_impl_OpenSeconds _ _ _ _
theorem ck_spec_DrawHoursLeft : chkFn Tryz.prog phi 331 spec_DrawHoursLeft_ir = true := by kernel_rfl
theorem ok_spec_DrawHoursLeft : FOk Tryz.prog phi 331 spec_DrawHoursLeft_c := fn_ok hm (D := spec_DrawHoursLeft_D) (DOk.cons ok_spec_l00From (DOk.cons ok_spec_l00Src_among (DOk.cons ok_spec_l14DrawOne (DOk.cons ok_spec_l14Bent DOk.nil)))) ck_spec_DrawHoursLeft _ _ _ _
theorem ck_impl_isPart : chkFn Tryz.prog phi 483 impl_isPart_ir = true := by kernel_rfl
theorem ok_impl_isPart : FOk Tryz.prog phi 483 impl_isPart_c := fn_ok hm (D := impl_isPart_D) (DOk.cons ok_impl_within DOk.nil) ck_impl_isPart _ _ _ _
theorem ck_impl_Pot_strength : chkFn Tryz.prog phi 54 impl_Pot_strength_ir = true := by kernel_rfl
theorem ok_impl_Pot_strength : FOk Tryz.prog phi 54 impl_Pot_strength_c := fn_ok hm (D := impl_Pot_strength_D) (DOk.cons ok_impl_divRound DOk.nil) ck_impl_Pot_strength _ _ _ _
theorem ck_impl_HoursLeft : chkFn Tryz.prog phi 330 impl_HoursLeft_ir = true := by kernel_rfl
theorem ok_impl_HoursLeft : FOk Tryz.prog phi 330 impl_HoursLeft_c := fn_ok hm (D := impl_HoursLeft_D) (DOk.cons ok_impl_Pot_valid (DOk.cons ok_impl_Pot_strength (DOk.cons ok_impl_isPart DOk.nil))) ck_impl_HoursLeft _ _ _ _
theorem ck_spec_l01Small : chkFn Tryz.prog phi 11 spec_l01Small_ir = true := by kernel_rfl
theorem ok_spec_l01Small : FOk Tryz.prog phi 11 spec_l01Small_c := fn_ok hm (D := spec_l01Small_D) DOk.nil ck_spec_l01Small _ _ _ _
theorem ck_spec_l01Digit : chkFn Tryz.prog phi 12 spec_l01Digit_ir = true := by kernel_rfl
theorem ok_spec_l01Digit : FOk Tryz.prog phi 12 spec_l01Digit_c := fn_ok hm (D := spec_l01Digit_D) DOk.nil ck_spec_l01Digit _ _ _ _
theorem ck_spec_l01Name : chkFn Tryz.prog phi 13 spec_l01Name_ir = true := by kernel_rfl
theorem ok_spec_l01Name : FOk Tryz.prog phi 13 spec_l01Name_c := fn_ok hm (D := spec_l01Name_D) (DOk.cons ok_spec_l01Small (DOk.cons ok_spec_l01Digit DOk.nil)) ck_spec_l01Name _ _ _ _
theorem ck_spec_l00In : chkFn Tryz.prog phi 1 spec_l00In_ir = true := by kernel_rfl
theorem ok_spec_l00In : FOk Tryz.prog phi 1 spec_l00In_c := fn_ok hm (D := spec_l00In_D) DOk.nil ck_spec_l00In _ _ _ _
theorem ck_spec_l14Grams : chkFn Tryz.prog phi 14 spec_l14Grams_ir = true := by kernel_rfl
theorem ok_spec_l14Grams : FOk Tryz.prog phi 14 spec_l14Grams_c := fn_ok hm (D := spec_l14Grams_D) (DOk.cons ok_spec_l00In DOk.nil) ck_spec_l14Grams _ _ _ _
theorem ck_spec_l14Heat : chkFn Tryz.prog phi 15 spec_l14Heat_ir = true := by kernel_rfl
theorem ok_spec_l14Heat : FOk Tryz.prog phi 15 spec_l14Heat_c := fn_ok hm (D := spec_l14Heat_D) (DOk.cons ok_spec_l00In DOk.nil) ck_spec_l14Heat _ _ _ _
theorem ck_spec_l14One : chkFn Tryz.prog phi 20 spec_l14One_ir = true := by kernel_rfl
theorem ok_spec_l14One : FOk Tryz.prog phi 20 spec_l14One_c := fn_ok hm (D := spec_l14One_D) (DOk.cons ok_spec_l00In (DOk.cons ok_spec_l01Name (DOk.cons ok_spec_l14Grams (DOk.cons ok_spec_l14Heat DOk.nil)))) ck_spec_l14One _ _ _ _
theorem ck_spec_l01Div : chkFn Tryz.prog phi 16 spec_l01Div_ir = true := by kernel_rfl
theorem ok_spec_l01Div : FOk Tryz.prog phi 16 spec_l01Div_c := fn_ok hm (D := spec_l01Div_D) DOk.nil ck_spec_l01Div _ _ _ _
theorem ck_spec_l00Max : chkFn Tryz.prog phi 17 spec_l00Max_ir = true := by kernel_rfl
theorem ok_spec_l00Max : FOk Tryz.prog phi 17 spec_l00Max_c := fn_ok hm (D := spec_l00Max_D) DOk.nil ck_spec_l00Max _ _ _ _
theorem ck_spec_l14Strong : chkFn Tryz.prog phi 50 spec_l14Strong_ir = true := by kernel_rfl
theorem ok_spec_l14Strong : FOk Tryz.prog phi 50 spec_l14Strong_c := fn_ok hm (D := spec_l14Strong_D) (DOk.cons ok_spec_l01Div (DOk.cons ok_spec_l00Max DOk.nil)) ck_spec_l14Strong _ _ _ _
theorem ck_spec_StrengthOf : chkFn Tryz.prog phi 177 spec_StrengthOf_ir = true := by kernel_rfl
theorem ok_spec_StrengthOf : FOk Tryz.prog phi 177 spec_StrengthOf_c := fn_ok hm (D := spec_StrengthOf_D) (DOk.cons ok_spec_l14One (DOk.cons ok_spec_l14Strong DOk.nil)) ck_spec_StrengthOf _ _ _ _
theorem ck_impl_StrengthOf : chkFn Tryz.prog phi 329 impl_StrengthOf_ir = true := by kernel_rfl
theorem ok_impl_StrengthOf : FOk Tryz.prog phi 329 impl_StrengthOf_c := fn_ok hm (D := impl_StrengthOf_D) (DOk.cons ok_impl_Pot_valid (DOk.cons ok_impl_Pot_strength DOk.nil)) ck_impl_StrengthOf _ _ _ _
theorem ck_spec_DrawHeatPot : chkFn Tryz.prog phi 328 spec_DrawHeatPot_ir = true := by kernel_rfl
theorem ok_spec_DrawHeatPot : FOk Tryz.prog phi 328 spec_DrawHeatPot_c := fn_ok hm (D := spec_DrawHeatPot_D) (DOk.cons ok_spec_l00From (DOk.cons ok_spec_l00Src_among (DOk.cons ok_spec_l14DrawOne (DOk.cons ok_spec_l14Bent DOk.nil)))) ck_spec_DrawHeatPot _ _ _ _
theorem ck_impl_HeatPot : chkFn Tryz.prog phi 327 impl_HeatPot_ir = true := by kernel_rfl
theorem ok_impl_HeatPot : FOk Tryz.prog phi 327 impl_HeatPot_c := fn_ok hm (D := impl_HeatPot_D) (DOk.cons ok_impl_within (DOk.cons ok_impl_isHeat (DOk.cons ok_impl_divRound (DOk.cons ok_impl_Pot_valid DOk.nil)))) ck_impl_HeatPot _ _ _ _
theorem ok_strconv_FormatInt : FOk Tryz.prog phi 864 strconv_FormatInt_c := formatInt_ok Tryz.laysM173 ⟨3, by kernel_rfl⟩ (by kernel_rfl)
theorem ck_impl_Decimal : chkFn Tryz.prog phi 524 impl_Decimal_ir = true := by kernel_rfl
theorem ok_impl_Decimal : FOk Tryz.prog phi 524 impl_Decimal_c := fn_ok hm (D := impl_Decimal_D) (DOk.cons ok_strconv_FormatInt DOk.nil) ck_impl_Decimal _ _ _ _
theorem ok_strings_Join : FOk Tryz.prog phi 630 strings_Join_c := join_ok Tryz.lays156 Tryz.Builder_Extra_156 (by kernel_rfl)
theorem ck_impl_ListText : chkFn Tryz.prog phi 460 impl_ListText_ir = true := by kernel_rfl
theorem ok_impl_ListText : FOk Tryz.prog phi 460 impl_ListText_c := fn_ok hm (D := impl_ListText_D) (DOk.cons ok_impl_few (DOk.cons ok_impl_within (DOk.cons ok_impl_Decimal (DOk.cons ok_strings_Join DOk.nil)))) ck_impl_ListText _ _ _ _
theorem ck_impl_named : chkFn Tryz.prog phi 459 impl_named_ir = true := by kernel_rfl
theorem ok_impl_named : FOk Tryz.prog phi 459 impl_named_c := fn_ok hm (D := impl_named_D) (DOk.cons ok_impl_ListText DOk.nil) ck_impl_named _ _ _ _
theorem ck_impl_PotText : chkFn Tryz.prog phi 325 impl_PotText_ir = true := by kernel_rfl
theorem ok_impl_PotText : FOk Tryz.prog phi 325 impl_PotText_c := fn_ok hm (D := impl_PotText_D) (DOk.cons ok_impl_Pot_valid (DOk.cons ok_impl_named DOk.nil)) ck_impl_PotText _ _ _ _
theorem ok_strings_Cut : FOk Tryz.prog phi 523 strings_Cut_c := cut_ok Tryz.laysM145 (of_decide_eq_true (by kernel_rfl)) (by kernel_rfl)
theorem ok_strings_Split : FOk Tryz.prog phi 683 strings_Split_c := split_ok Tryz.laysM146 (of_decide_eq_true (by kernel_rfl)) (by kernel_rfl)
section
open Go.Lib
theorem rd_long (s : ByteArray) (w : World) (hl : 18 < (Lib.trimPrefix s.data.toList [45]).length) :
    Calls Tryz.prog 116 #[.string s] w fun e w' => e = .returned (.tuple #[.int .i64 0, .bool false]) ∧ Below w.heap.size w w' := by
  go_enter Tryz.func116, Tryz.ntmps116
  go_wp2_with (go_at_call 129; refine (Tryz.strings_TrimPrefix _ _ _).mono ?_; rintro e w' ⟨rfl, rfl⟩)
  all_goals first
    | (exfalso; omega)
    | (go_ret2; exact ⟨rfl, Below.refl _ _⟩)
theorem rd_bad (s : ByteArray) (w : World) (hl : ¬ 18 < (Lib.trimPrefix s.data.toList [45]).length) (m : Int) (u : TypeId) (hP : Calls Tryz.prog 130 #[.string s, .int .i64 10, .int .i64 64] w fun e w' => ∃ x, e = .returned (.tuple #[.int .i64 m, .iface u x]) ∧ Below w.heap.size w w') :
    Calls Tryz.prog 116 #[.string s] w fun e w' => e = .returned (.tuple #[.int .i64 0, .bool false]) ∧ Below w.heap.size w w' := by
  go_enter Tryz.func116, Tryz.ntmps116
  go_wp2_with (first | (go_at_call 129; refine (Tryz.strings_TrimPrefix _ _ _).mono ?_; rintro e w' ⟨rfl, rfl⟩) | (go_at_call 130; refine hP.mono ?_; rintro e w1 ⟨x, rfl, hw1⟩))
  all_goals first
    | (exfalso; omega)
    | (go_ret2; exact ⟨rfl, hw1⟩)
theorem rd_ok (s : ByteArray) (w : World) (hl : ¬ 18 < (Lib.trimPrefix s.data.toList [45]).length) (v : Int) (hs : Lib.itoa v = s.data.toList) (hP : Calls Tryz.prog 130 #[.string s, .int .i64 10, .int .i64 64] w fun e w' => e = .returned (.tuple #[.int .i64 v, .nilIface]) ∧ Below w.heap.size w w')
    (hF : ∀ w', Below w.heap.size w w' → Calls Tryz.prog 133 #[.int .i64 v, .int .i64 10] w' fun e w'' => e = .returned (.string ⟨(Lib.itoa v).toArray⟩) ∧ Below w'.heap.size w' w'') :
    Calls Tryz.prog 116 #[.string s] w fun e w' => e = .returned (.tuple #[.int .i64 v, .bool true]) ∧ Below w.heap.size w w' := by
  have HS := Lib.hid hs; clear hs
  go_enter Tryz.func116, Tryz.ntmps116
  go_wp2_with (first | (go_at_call 129; refine (Tryz.strings_TrimPrefix _ _ _).mono ?_; rintro e w' ⟨rfl, rfl⟩) | (go_at_call 130; refine hP.mono ?_; rintro e w1 ⟨rfl, hw1⟩) | (go_at_call 133; refine (hF _ hw1).mono ?_; rintro e w2 ⟨rfl, hw2⟩) | go_in)
  all_goals first
    | (exfalso; omega)
    | skip
  · rename_i h
    exfalso
    rw [HS.out] at h
    simp [Lib.toList_data] at h
  · go_ret2; exact ⟨rfl, hw1.trans (hw2.mono hw1.size)⟩
theorem rd_no (s : ByteArray) (w : World) (hl : ¬ 18 < (Lib.trimPrefix s.data.toList [45]).length) (v : Int) (hs : Lib.itoa v ≠ s.data.toList) (hP : Calls Tryz.prog 130 #[.string s, .int .i64 10, .int .i64 64] w fun e w' => e = .returned (.tuple #[.int .i64 v, .nilIface]) ∧ Below w.heap.size w w')
    (hF : ∀ w', Below w.heap.size w w' → Calls Tryz.prog 133 #[.int .i64 v, .int .i64 10] w' fun e w'' => e = .returned (.string ⟨(Lib.itoa v).toArray⟩) ∧ Below w'.heap.size w' w'') :
    Calls Tryz.prog 116 #[.string s] w fun e w' => e = .returned (.tuple #[.int .i64 0, .bool false]) ∧ Below w.heap.size w w' := by
  have HS := Lib.hid hs; clear hs
  go_enter Tryz.func116, Tryz.ntmps116
  go_wp2_with (first | (go_at_call 129; refine (Tryz.strings_TrimPrefix _ _ _).mono ?_; rintro e w' ⟨rfl, rfl⟩) | (go_at_call 130; refine hP.mono ?_; rintro e w1 ⟨rfl, hw1⟩) | (go_at_call 133; refine (hF _ hw1).mono ?_; rintro e w2 ⟨rfl, hw2⟩) | go_in)
  all_goals first
    | (exfalso; omega)
    | skip
  · go_ret2; exact ⟨rfl, hw1.trans (hw2.mono hw1.size)⟩
  · rename_i h
    exfalso
    apply HS.out
    simpa [Lib.toList_data] using h
end
theorem rd_walk : RdWalk Tryz.prog 116 130 133 := ⟨⟨_, Tryz.func116, by decide +kernel, rfl⟩, rd_long, rd_bad, rd_ok, rd_no⟩
theorem ok_impl_ReadDecimal : FOk Tryz.prog phi 522 impl_ReadDecimal_c := readDecimal_ok Tryz.laysC174 Tryz.laysM173 ⟨3, by kernel_rfl⟩ (by kernel_rfl) (by kernel_rfl) rd_walk (by kernel_rfl)
theorem ck_impl_ReadList : chkFn Tryz.prog phi 457 impl_ReadList_ir = true := by kernel_rfl
theorem ok_impl_ReadList : FOk Tryz.prog phi 457 impl_ReadList_c := fn_ok hm (D := impl_ReadList_D) (DOk.cons ok_impl_within (DOk.cons ok_impl_ReadDecimal (DOk.cons ok_strings_Split DOk.nil))) ck_impl_ReadList _ _ _ _
theorem ck_impl_readNamed : chkFn Tryz.prog phi 747 impl_readNamed_ir = true := by kernel_rfl
theorem ok_impl_readNamed : FOk Tryz.prog phi 747 impl_readNamed_c := fn_ok hm (D := impl_readNamed_D) (DOk.cons ok_impl_ReadList (DOk.cons ok_strings_Cut DOk.nil)) ck_impl_readNamed _ _ _ _
theorem ck_impl_ReadPot : chkFn Tryz.prog phi 326 impl_ReadPot_ir = true := by kernel_rfl
theorem ok_impl_ReadPot : FOk Tryz.prog phi 326 impl_ReadPot_c := fn_ok hm (D := impl_ReadPot_D) (DOk.cons ok_impl_Pot_valid (DOk.cons ok_impl_readNamed DOk.nil)) ck_impl_ReadPot _ _ _ _
theorem ck_laws_FnGlue : chkFn Tryz.prog phi 1231 laws_FnGlue_ir = true := by kernel_rfl
theorem ok_laws_FnGlue : FOk Tryz.prog phi 1231 laws_FnGlue_c := fn_ok hm (D := laws_FnGlue_D) (DOk.cons ok_impl_OpenSeconds (DOk.cons ok_impl_WaterFor (DOk.cons ok_laws_b10Long (DOk.cons ok_spec_StrengthOf (DOk.cons ok_impl_PotText (DOk.cons ok_impl_ReadPot (DOk.cons ok_impl_HeatPot (DOk.cons ok_spec_DrawHeatPot (DOk.cons ok_impl_StrengthOf (DOk.cons ok_impl_HoursLeft (DOk.cons ok_spec_DrawHoursLeft (DOk.cons ok_spec_DrawWaterFor DOk.nil)))))))))))) ck_laws_FnGlue _ _ _ _
theorem law : ∀ x, wfU laws_FnGlue_c.ps x → ∃ y, laws_FnGlue_c.f x = some y ∧ resA laws_FnGlue_c y = ([A.bool true], []) := fun x hx => ⟨true, (laws_FnGlue_true x.1 x.2.1 hx.1 hx.2.1), rfl⟩
theorem own : ownKnob Tryz.prog.godebug = none := by kernel_rfl
theorem laid : laidOutB Tryz.prog = true := by kernel_rfl
theorem reads : ∀ t ∈ Tryz.f3.params.toList, Tryz.prog.readableRec t = true ∧ t < Tryz.prog.types.size := by
  have h : (Tryz.f3.params.toList.all fun t => Tryz.prog.readableRec t && decide (t < Tryz.prog.types.size)) = true := by kernel_rfl
  intro t ht
  have := List.all_eq_true.1 h t ht
  simpa only [Bool.and_eq_true, decide_eq_true_eq] using this
theorem spec_eq (H : Type) : ∀ (ds : List (DataW H)), ds.length = Tryz.f3.params.toList.length → Rows.fnGlueSpec.fn H ds = { results := [.lit (.bool true)], args := ds } := by
  intro ds hd
  have hd : ds.length = 2 := hd
  match ds, hd with
  | [d0, d1], _ => rfl
theorem tab (W : World) (hL : laidMetH Tryz.prog Rows.fnGlueRow.laid W) : ∀ i, Tryz.prog.globalNamed pow10Name = some i → Lib.TabIs Tryz.prog W pow10Name .u64 Lib.pow10Tab := by
  intro i hi
  have hp : (Rows.fnGlueRow.laid.all fun x => x.2.handleName?.isNone) = true := by kernel_rfl
  rw [MakeChecks.laidMetH_plain _ _ _ hp] at hL
  have h1 : laidMet Tryz.prog (("internal/strconv.uint64pow10", Rows.laid_internal_strconv_uint64pow10) :: [("unicode/utf8.acceptRanges", Rows.laid_unicode_utf8_acceptRanges), ("strconv.ErrRange", Rows.laid_strconv_ErrRange), ("strconv.ErrSyntax", Rows.laid_strconv_ErrSyntax), ("unicode/utf8.first", Rows.laid_unicode_utf8_first)]) W := (laidMet.tail (laidMet.tail hL))
  have e : (Rows.laid_internal_strconv_uint64pow10 : DataW Unit) = Lib.tabData .u64 Lib.pow10Tab := by kernel_rfl
  rw [e] at h1
  exact Lib.tabIs_of_head (t := 189) (e := 112) (n := 20) hi (by obtain rfl := Option.some.inj ((show Tryz.prog.globalNamed pow10Name = some 3 by kernel_rfl).symm.trans hi); kernel_rfl) (by kernel_rfl) (by kernel_rfl) (by kernel_rfl) (by kernel_rfl) h1
theorem errs (W : World) (hL : laidMetH Tryz.prog Rows.fnGlueRow.laid W) : ∀ n, errNames.contains n = true → ∀ i, Tryz.prog.globalNamed n = some i → ∃ u v, W.var? Tryz.prog n = some #[.iface u v] := by
  intro n hn i hi
  have hn : n = "strconv.ErrSyntax" ∨ n = "strconv.ErrRange" := by simpa [errNames] using hn
  have hp : (Rows.fnGlueRow.laid.all fun x => x.2.handleName?.isNone) = true := by kernel_rfl
  rw [MakeChecks.laidMetH_plain _ _ _ hp] at hL
  rcases hn with rfl | rfl
  · have h1 : laidMet Tryz.prog (("strconv.ErrSyntax", Rows.laid_strconv_ErrSyntax) :: [("unicode/utf8.first", Rows.laid_unicode_utf8_first)]) W := (laidMet.tail (laidMet.tail (laidMet.tail (laidMet.tail (laidMet.tail hL)))))
    exact laid_iface (ti := 137) h1 ⟨_, _, rfl⟩ hi (by obtain rfl := Option.some.inj ((show Tryz.prog.globalNamed "strconv.ErrSyntax" = some 1 by kernel_rfl).symm.trans hi); kernel_rfl) Tryz.underlying137
  · have h1 : laidMet Tryz.prog (("strconv.ErrRange", Rows.laid_strconv_ErrRange) :: [("strconv.ErrSyntax", Rows.laid_strconv_ErrSyntax), ("unicode/utf8.first", Rows.laid_unicode_utf8_first)]) W := (laidMet.tail (laidMet.tail (laidMet.tail (laidMet.tail hL))))
    exact laid_iface (ti := 137) h1 ⟨_, _, rfl⟩ hi (by obtain rfl := Option.some.inj ((show Tryz.prog.globalNamed "strconv.ErrRange" = some 2 by kernel_rfl).symm.trans hi); kernel_rfl) Tryz.underlying137
theorem contract (H : Type) (enc : TypeId × Value → H) (W : World) (base : Nat) (args : Array Value) (ds gs : List (DataW H)) (before : List MemPlace)
    (hval : ∀ (j : Nat) t v, Tryz.f3.params[j]? = some t → args[j]? = some v → Value.okWide Tryz.prog W .any base t v)
    (hW : DataW.Whole enc Tryz.prog Tryz.f3.params.toList Rows.fnGlueSpec.vars false W args.toList ds gs before) (hL : laidMetH Tryz.prog Rows.fnGlueRow.laid W) (hsh : W.ShapedOpen Tryz.prog) :
    Calls Tryz.prog 3 args W fun e W' => ∃ v, e = .returned v ∧ Rows.fnGlueSpec.post enc Tryz.prog Tryz.f3 false true false false W args v W' :=
  row_contract (φ := phi) (g := 1231) (n := 20) ok_laws_FnGlue rfl rfl (tb := 4) Tryz.underlying4 (by kernel_rfl) rfl law laid reads spec_eq W base args ds gs before hval hW (Glob.start hsh (tab W hL) (errs W hL))
theorem lifted (os : Os) (started : os.Started) (H : Type) (enc : TypeId × Value → H) :
    ReturnsInHanded {} Tryz.checked os 3 .any (fun w args => (Rows.fnGlueSpec.pre enc Tryz.prog Tryz.f3 Rows.fnGlueRow.domain false w args ∧ laidMetH Tryz.prog Rows.fnGlueRow.laid w) ∧ sizedMet enc Tryz.prog Tryz.f3 (OpenSpec.ofChange Rows.fnGlueSpec) false w args) (Rows.fnGlueSpec.post enc Tryz.prog Tryz.f3 false true false false) := by
  refine returnsInHanded_laid (C := Tryz.checked) (laid := Rows.fnGlueRow.laid) own started (by kernel_rfl) Tryz.func3
    (ChangeSpec.witness_shaped (enc := enc) (C := Tryz.checked) (os := os) (X := fun w _ => laidMetH Tryz.prog Rows.fnGlueRow.laid w) false (World.laidAll Tryz.prog os Rows.fnGlueRow.laid) #[.slice none 0 0, .slice none 0 0] 12 (World.laidAll_os _ _ _)
      (World.shaped_of_ZipB (by kernel_rfl) (by kernel_rfl)) (by kernel_rfl) (by kernel_rfl) (by kernel_rfl)
      (by rw [MakeChecks.laidMetH_plain _ _ _ (by kernel_rfl)]; exact laidMet_laidAll _ (by kernel_rfl) (by kernel_rfl))) ?_
  intro W base args ds gs before hval hW hL hsh
  exact contract H enc W base args ds gs before hval hW hL hsh
theorem over : Rows.fnGlueRow.holds Tryz.pinned (OpenSpec.ofChange Rows.fnGlueSpec) :=
  OpenClaim.holds_of_wide 3 Tryz.f3 rfl rfl rfl rfl rfl rfl rfl ⟨rfl, rfl, rfl, rfl, rfl⟩ rfl rfl rfl rfl rfl (by kernel_rfl) Tryz.func3 (by kernel_rfl)
    (of_decide_eq_true (by kernel_rfl)) (by unfold Func.isWrapper; first | (rw [if_pos (by decide +kernel)]; kernel_rfl) | (rw [if_neg (by decide +kernel)]; exact ⟨rfl, rfl⟩))
    (fun os started H enc _ => lifted os started H enc)
theorem card : Rows.FnGlueCardSaid :=
  Claim7.holds_tied_plain_at .later [] [.data, .data, .data, .data, .sentinel, .sentinel, .pinned] true (true, "9b7772904419ea9a85f5da0650d787911d8a6b1e215ee7587b799541be605f0a") true over (fun _ h => by cases h) (by kernel_rfl) (fun _ h => by cases h) fnGlue_row_tie rfl ⟨rfl, rfl⟩ (by kernel_rfl) rfl
    (fun f fn hf hfn => by
      obtain rfl : f = 3 := Option.some.inj ((show Tryz.prog.funcNamed "loop.example/g01061/laws.FnGlue" = some 3 by kernel_rfl).symm.trans hf) |>.symm
      obtain rfl : fn = Tryz.f3 := (Option.some.inj (Tryz.func3.symm.trans hfn)).symm
      exact ⟨by kernel_rfl, fun j t ht => by
        have hm : t ∈ Tryz.f3.params.toList := by simpa using Array.mem_of_getElem? ht
        have hall : (Tryz.f3.params.toList.all fun u => !Tryz.prog.wantsStandIn u) = true := by kernel_rfl
        exact (show Tryz.prog.wantsStandIn t = false by simpa using List.all_eq_true.1 hall t hm)⟩)
    (by kernel_rfl)
/-- The statement. -/
theorem proved : Rows.FnGlueCardSaid := card
end Go.Proofs.YtbijadelckpmjaaGreatDoor.fnGlue
