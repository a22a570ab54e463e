/- The law FnMoulds answers true for every input, whatever it is, and leaves its arguments as they were. Conditions: none. -/
import Derived.Test.YtbijadelckpmjaaGreatDoorQFnMoulds
import Derived.Test.YtbijadelckpmjaaGreatDoorRows
import Derived.Test.YtbijadelckpmjaaGreatDoorL5
import Derived.Test.YtbijadelckpmjaaGreatDoorShelf
import Derived.Test.YtbijadelckpmjaaGreatDoorCards
import Derived.Test.YtbijadelckpmjaaGreatDoorTie
import Derived.LaidMore
import Derived.Lay
import Derived.SevenTiedAt
import Derived.Stop.Joined
import Derived.WalkKit
import Derived.ProofKit
import Derived.OpenShut
import Derived.JoinedOf
import Derived.Handed
set_option linter.unusedVariables false
set_option maxRecDepth 100000
namespace Go.Proofs.YtbijadelckpmjaaGreatDoor.fnMoulds
open Go.Ab Go.Ab.P
open Go.ChangeShapes Go.WideShapes Go.ChangeAt Go.RowKit
def phiL : List (Nat × Nat) := [(76, 6), (441, 43), (847, 114), (463, 83), (642, 84), (760, 69), (445, 52), (761, 68), (726, 102), (505, 62), (756, 63), (348, 18), (22, 122), (21, 103), (24, 92), (23, 58), (762, 70), (509, 64), (759, 65), (757, 66), (758, 67), (347, 19), (345, 20), (346, 21), (66, 22), (344, 23), (343, 24), (342, 25), (864, 133), (524, 120), (630, 126), (460, 101), (459, 61), (341, 26), (523, 100), (683, 115), (522, 116), (457, 88), (747, 60), (340, 27), (11, 123), (12, 124), (13, 94), (1, 97), (962, 104), (764, 71), (963, 105), (763, 72), (339, 28), (1233, 4)]
def phi (n : Nat) : Nat := (phiL.lookup n).getD 1000000
theorem hm : Tryz.prog.follows .mixedOrders = true := by kernel_rfl
theorem ck_laws_b10Long : chkFn Tryz.prog phi 76 laws_b10Long_ir = true := by kernel_rfl
theorem ok_laws_b10Long : FOk Tryz.prog phi 76 laws_b10Long_c := fn_ok hm (D := laws_b10Long_D) DOk.nil ck_laws_b10Long _ _ _ _
theorem ck_spec_l00From : chkFn Tryz.prog phi 441 spec_l00From_ir = true := by kernel_rfl
theorem ok_spec_l00From : FOk Tryz.prog phi 441 spec_l00From_c := fn_ok hm (D := spec_l00From_D) DOk.nil ck_spec_l00From _ _ _ _
theorem ck_spec_l00Src_next : chkFn Tryz.prog phi 847 spec_l00Src_next_ir = true := by kernel_rfl
theorem ok_spec_l00Src_next : FOk Tryz.prog phi 847 spec_l00Src_next_c := fn_ok hm (D := spec_l00Src_next_D) DOk.nil ck_spec_l00Src_next _ _ _ _
theorem ck_spec_l00Src_pick : chkFn Tryz.prog phi 463 spec_l00Src_pick_ir = true := by kernel_rfl
theorem ok_spec_l00Src_pick : FOk Tryz.prog phi 463 spec_l00Src_pick_c := fn_ok hm (D := spec_l00Src_pick_D) (DOk.cons ok_spec_l00Src_next DOk.nil) ck_spec_l00Src_pick _ _ _ _
theorem ck_spec_l00Src_one : chkFn Tryz.prog phi 642 spec_l00Src_one_ir = true := by kernel_rfl
theorem ok_spec_l00Src_one : FOk Tryz.prog phi 642 spec_l00Src_one_c := fn_ok hm (D := spec_l00Src_one_D) (DOk.cons ok_spec_l00Src_pick DOk.nil) ck_spec_l00Src_one _ _ _ _
theorem ck_spec_l06DrawOne : chkFn Tryz.prog phi 760 spec_l06DrawOne_ir = true := by kernel_rfl
theorem ok_spec_l06DrawOne : FOk Tryz.prog phi 760 spec_l06DrawOne_c := fn_ok hm (D := spec_l06DrawOne_D) (DOk.cons ok_spec_l00Src_pick DOk.nil) ck_spec_l06DrawOne _ _ _ _
theorem ck_spec_l00Src_among : chkFn Tryz.prog phi 445 spec_l00Src_among_ir = true := by kernel_rfl
theorem ok_spec_l00Src_among : FOk Tryz.prog phi 445 spec_l00Src_among_c := fn_ok hm (D := spec_l00Src_among_D) (DOk.cons ok_spec_l00Src_pick DOk.nil) ck_spec_l00Src_among _ _ _ _
theorem ck_spec_l06Bent : chkFn Tryz.prog phi 761 spec_l06Bent_ir = true := by kernel_rfl
theorem ok_spec_l06Bent : FOk Tryz.prog phi 761 spec_l06Bent_c := fn_ok hm (D := spec_l06Bent_D) (DOk.cons ok_spec_l00Src_among (DOk.cons ok_spec_l00Src_pick DOk.nil)) ck_spec_l06Bent _ _ _ _
theorem ck_spec_l01Dec : chkFn Tryz.prog phi 726 spec_l01Dec_ir = true := by kernel_rfl
theorem ok_spec_l01Dec : FOk Tryz.prog phi 726 spec_l01Dec_c := fn_ok hm (D := spec_l01Dec_D) DOk.nil ck_spec_l01Dec _ _ _ _
theorem ck_spec_l06Draw : chkFn Tryz.prog phi 505 spec_l06Draw_ir = true := by kernel_rfl
theorem ok_spec_l06Draw : FOk Tryz.prog phi 505 spec_l06Draw_c := fn_ok hm (D := spec_l06Draw_D) (DOk.cons ok_spec_l00Src_among (DOk.cons ok_spec_l00Src_pick (DOk.cons ok_spec_l00Src_one (DOk.cons ok_spec_l01Dec (DOk.cons ok_spec_l06DrawOne (DOk.cons ok_spec_l06Bent DOk.nil)))))) ck_spec_l06Draw _ _ _ _
theorem ck_spec_l06DrawRound : chkFn Tryz.prog phi 756 spec_l06DrawRound_ir = true := by kernel_rfl
theorem ok_spec_l06DrawRound : FOk Tryz.prog phi 756 spec_l06DrawRound_c := fn_ok hm (D := spec_l06DrawRound_D) (DOk.cons ok_spec_l00Src_among (DOk.cons ok_spec_l00Src_pick (DOk.cons ok_spec_l00Src_one DOk.nil))) ck_spec_l06DrawRound _ _ _ _
theorem ck_spec_DrawStretchRibs : chkFn Tryz.prog phi 348 spec_DrawStretchRibs_ir = true := by kernel_rfl
theorem ok_spec_DrawStretchRibs : FOk Tryz.prog phi 348 spec_DrawStretchRibs_c := fn_ok hm (D := spec_DrawStretchRibs_D) (DOk.cons ok_spec_l00From (DOk.cons ok_spec_l06Draw (DOk.cons ok_spec_l06DrawRound DOk.nil))) ck_spec_DrawStretchRibs _ _ _ _
theorem ck_impl_isDigit : chkFn Tryz.prog phi 22 impl_isDigit_ir = true := by kernel_rfl
theorem ok_impl_isDigit : FOk Tryz.prog phi 22 impl_isDigit_c := fn_ok hm (D := impl_isDigit_D) DOk.nil ck_impl_isDigit _ _ _ _
theorem ck_impl_few : chkFn Tryz.prog phi 21 impl_few_ir = true := by kernel_rfl
theorem ok_impl_few : FOk Tryz.prog phi 21 impl_few_c := fn_ok hm (D := impl_few_D) DOk.nil ck_impl_few _ _ _ _
theorem ck_impl_IsName : chkFn Tryz.prog phi 24 impl_IsName_ir = true := by kernel_rfl
theorem ok_impl_IsName : FOk Tryz.prog phi 24 impl_IsName_c := fn_ok hm (D := impl_IsName_D) (DOk.cons ok_impl_few (DOk.cons ok_impl_isDigit DOk.nil)) ck_impl_IsName _ _ _ _
theorem ck_impl_within : chkFn Tryz.prog phi 23 impl_within_ir = true := by kernel_rfl
theorem ok_impl_within : FOk Tryz.prog phi 23 impl_within_c := fn_ok hm (D := impl_within_D) DOk.nil ck_impl_within _ _ _ _
theorem ck_impl_Rib_valid : chkFn Tryz.prog phi 762 impl_Rib_valid_ir = true := by kernel_rfl
theorem ok_impl_Rib_valid : FOk Tryz.prog phi 762 impl_Rib_valid_c := fn_ok hm (D := impl_Rib_valid_D) (DOk.cons ok_impl_within (DOk.cons ok_impl_IsName DOk.nil)) ck_impl_Rib_valid _ _ _ _
theorem ck_impl_ValidRibs : chkFn Tryz.prog phi 509 impl_ValidRibs_ir = true := by kernel_rfl
theorem ok_impl_ValidRibs : FOk Tryz.prog phi 509 impl_ValidRibs_c := fn_ok hm (D := impl_ValidRibs_D) (DOk.cons ok_impl_few (DOk.cons ok_impl_Rib_valid DOk.nil)) ck_impl_ValidRibs _ _ _ _
theorem ck_impl_isRound : chkFn Tryz.prog phi 759 impl_isRound_ir = true := by kernel_rfl
theorem ok_impl_isRound : FOk Tryz.prog phi 759 impl_isRound_c := fn_ok hm (D := impl_isRound_D) (DOk.cons ok_impl_within DOk.nil) ck_impl_isRound _ _ _ _
theorem ck_impl_ribsLength : chkFn Tryz.prog phi 757 impl_ribsLength_ir = true := by kernel_rfl
theorem ok_impl_ribsLength : FOk Tryz.prog phi 757 impl_ribsLength_c := fn_ok hm (D := impl_ribsLength_D) DOk.nil ck_impl_ribsLength _ _ _ _
theorem ck_impl_clone_impl_Rib_ : chkFn Tryz.prog phi 758 impl_clone_impl_Rib__ir = true := by kernel_rfl
theorem ok_impl_clone_impl_Rib_ : FOk Tryz.prog phi 758 impl_clone_impl_Rib__c := fn_ok hm (D := impl_clone_impl_Rib__D) DOk.nil ck_impl_clone_impl_Rib_ _ _ _ _
theorem ck_impl_StretchRibs : chkFn Tryz.prog phi 347 impl_StretchRibs_ir = true := by kernel_rfl
theorem ok_impl_StretchRibs : FOk Tryz.prog phi 347 impl_StretchRibs_c := fn_ok hm (D := impl_StretchRibs_D) (DOk.cons ok_impl_ValidRibs (DOk.cons ok_impl_ribsLength (DOk.cons ok_impl_clone_impl_Rib_ (DOk.cons ok_impl_isRound DOk.nil)))) ck_impl_StretchRibs _ _ _ _
theorem ck_impl_MouldGap : chkFn Tryz.prog phi 345 impl_MouldGap_ir = true := by kernel_rfl
theorem ok_impl_MouldGap : FOk Tryz.prog phi 345 impl_MouldGap_c := fn_ok hm (D := impl_MouldGap_D) (DOk.cons ok_impl_ValidRibs (DOk.cons ok_impl_ribsLength (DOk.cons ok_impl_isRound DOk.nil))) ck_impl_MouldGap _ _ _ _
theorem ck_impl_RibsLength : chkFn Tryz.prog phi 346 impl_RibsLength_ir = true := by kernel_rfl
theorem ok_impl_RibsLength : FOk Tryz.prog phi 346 impl_RibsLength_c := fn_ok hm (D := impl_RibsLength_D) (DOk.cons ok_impl_ValidRibs (DOk.cons ok_impl_ribsLength DOk.nil)) ck_impl_RibsLength _ _ _ _
theorem ck_laws_b10Abs : chkFn Tryz.prog phi 66 laws_b10Abs_ir = true := by kernel_rfl
theorem ok_laws_b10Abs : FOk Tryz.prog phi 66 laws_b10Abs_c := fn_ok hm (D := laws_b10Abs_D) DOk.nil ck_laws_b10Abs _ _ _ _
theorem ck_spec_DrawBlocksAt : chkFn Tryz.prog phi 344 spec_DrawBlocksAt_ir = true := by kernel_rfl
theorem ok_spec_DrawBlocksAt : FOk Tryz.prog phi 344 spec_DrawBlocksAt_c := fn_ok hm (D := spec_DrawBlocksAt_D) (DOk.cons ok_spec_l00From (DOk.cons ok_spec_l00Src_among (DOk.cons ok_spec_l06Draw DOk.nil))) ck_spec_DrawBlocksAt _ _ _ _
theorem ck_impl_BlocksAt : chkFn Tryz.prog phi 343 impl_BlocksAt_ir = true := by kernel_rfl
theorem ok_impl_BlocksAt : FOk Tryz.prog phi 343 impl_BlocksAt_c := fn_ok hm (D := impl_BlocksAt_D) (DOk.cons ok_impl_within (DOk.cons ok_impl_ValidRibs DOk.nil)) ck_impl_BlocksAt _ _ _ _
theorem ck_spec_DrawRibText : chkFn Tryz.prog phi 342 spec_DrawRibText_ir = true := by kernel_rfl
theorem ok_spec_DrawRibText : FOk Tryz.prog phi 342 spec_DrawRibText_c := fn_ok hm (D := spec_DrawRibText_D) (DOk.cons ok_spec_l00From (DOk.cons ok_spec_l06DrawOne (DOk.cons ok_spec_l06Bent DOk.nil))) ck_spec_DrawRibText _ _ _ _
theorem ok_strconv_FormatInt : FOk Tryz.prog phi 864 strconv_FormatInt_c := formatInt_ok Tryz.laysM173 ⟨3, by kernel_rfl⟩ (by kernel_rfl)
theorem ck_impl_Decimal : chkFn Tryz.prog phi 524 impl_Decimal_ir = true := by kernel_rfl
theorem ok_impl_Decimal : FOk Tryz.prog phi 524 impl_Decimal_c := fn_ok hm (D := impl_Decimal_D) (DOk.cons ok_strconv_FormatInt DOk.nil) ck_impl_Decimal _ _ _ _
theorem ok_strings_Join : FOk Tryz.prog phi 630 strings_Join_c := join_ok Tryz.lays156 Tryz.Builder_Extra_156 (by kernel_rfl)
theorem ck_impl_ListText : chkFn Tryz.prog phi 460 impl_ListText_ir = true := by kernel_rfl
theorem ok_impl_ListText : FOk Tryz.prog phi 460 impl_ListText_c := fn_ok hm (D := impl_ListText_D) (DOk.cons ok_impl_few (DOk.cons ok_impl_within (DOk.cons ok_impl_Decimal (DOk.cons ok_strings_Join DOk.nil)))) ck_impl_ListText _ _ _ _
theorem ck_impl_named : chkFn Tryz.prog phi 459 impl_named_ir = true := by kernel_rfl
theorem ok_impl_named : FOk Tryz.prog phi 459 impl_named_c := fn_ok hm (D := impl_named_D) (DOk.cons ok_impl_ListText DOk.nil) ck_impl_named _ _ _ _
theorem ck_impl_RibText : chkFn Tryz.prog phi 341 impl_RibText_ir = true := by kernel_rfl
theorem ok_impl_RibText : FOk Tryz.prog phi 341 impl_RibText_c := fn_ok hm (D := impl_RibText_D) (DOk.cons ok_impl_named (DOk.cons ok_impl_Rib_valid DOk.nil)) ck_impl_RibText _ _ _ _
theorem ok_strings_Cut : FOk Tryz.prog phi 523 strings_Cut_c := cut_ok Tryz.laysM145 (of_decide_eq_true (by kernel_rfl)) (by kernel_rfl)
theorem ok_strings_Split : FOk Tryz.prog phi 683 strings_Split_c := split_ok Tryz.laysM146 (of_decide_eq_true (by kernel_rfl)) (by kernel_rfl)
section
open Go.Lib
theorem rd_long (s : ByteArray) (w : World) (hl : 18 < (Lib.trimPrefix s.data.toList [45]).length) :
    Calls Tryz.prog 116 #[.string s] w fun e w' => e = .returned (.tuple #[.int .i64 0, .bool false]) ∧ Below w.heap.size w w' := by
  go_enter Tryz.func116, Tryz.ntmps116
  go_wp2_with (go_at_call 129; refine (Tryz.strings_TrimPrefix _ _ _).mono ?_; rintro e w' ⟨rfl, rfl⟩)
  all_goals first
    | (exfalso; omega)
    | (go_ret2; exact ⟨rfl, Below.refl _ _⟩)
theorem rd_bad (s : ByteArray) (w : World) (hl : ¬ 18 < (Lib.trimPrefix s.data.toList [45]).length) (m : Int) (u : TypeId) (hP : Calls Tryz.prog 130 #[.string s, .int .i64 10, .int .i64 64] w fun e w' => ∃ x, e = .returned (.tuple #[.int .i64 m, .iface u x]) ∧ Below w.heap.size w w') :
    Calls Tryz.prog 116 #[.string s] w fun e w' => e = .returned (.tuple #[.int .i64 0, .bool false]) ∧ Below w.heap.size w w' := by
  go_enter Tryz.func116, Tryz.ntmps116
  go_wp2_with (first | (go_at_call 129; refine (Tryz.strings_TrimPrefix _ _ _).mono ?_; rintro e w' ⟨rfl, rfl⟩) | (go_at_call 130; refine hP.mono ?_; rintro e w1 ⟨x, rfl, hw1⟩))
  all_goals first
    | (exfalso; omega)
    | (go_ret2; exact ⟨rfl, hw1⟩)
theorem rd_ok (s : ByteArray) (w : World) (hl : ¬ 18 < (Lib.trimPrefix s.data.toList [45]).length) (v : Int) (hs : Lib.itoa v = s.data.toList) (hP : Calls Tryz.prog 130 #[.string s, .int .i64 10, .int .i64 64] w fun e w' => e = .returned (.tuple #[.int .i64 v, .nilIface]) ∧ Below w.heap.size w w')
    (hF : ∀ w', Below w.heap.size w w' → Calls Tryz.prog 133 #[.int .i64 v, .int .i64 10] w' fun e w'' => e = .returned (.string ⟨(Lib.itoa v).toArray⟩) ∧ Below w'.heap.size w' w'') :
    Calls Tryz.prog 116 #[.string s] w fun e w' => e = .returned (.tuple #[.int .i64 v, .bool true]) ∧ Below w.heap.size w w' := by
  have HS := Lib.hid hs; clear hs
  go_enter Tryz.func116, Tryz.ntmps116
  go_wp2_with (first | (go_at_call 129; refine (Tryz.strings_TrimPrefix _ _ _).mono ?_; rintro e w' ⟨rfl, rfl⟩) | (go_at_call 130; refine hP.mono ?_; rintro e w1 ⟨rfl, hw1⟩) | (go_at_call 133; refine (hF _ hw1).mono ?_; rintro e w2 ⟨rfl, hw2⟩) | go_in)
  all_goals first
    | (exfalso; omega)
    | skip
  · rename_i h
    exfalso
    rw [HS.out] at h
    simp [Lib.toList_data] at h
  · go_ret2; exact ⟨rfl, hw1.trans (hw2.mono hw1.size)⟩
theorem rd_no (s : ByteArray) (w : World) (hl : ¬ 18 < (Lib.trimPrefix s.data.toList [45]).length) (v : Int) (hs : Lib.itoa v ≠ s.data.toList) (hP : Calls Tryz.prog 130 #[.string s, .int .i64 10, .int .i64 64] w fun e w' => e = .returned (.tuple #[.int .i64 v, .nilIface]) ∧ Below w.heap.size w w')
    (hF : ∀ w', Below w.heap.size w w' → Calls Tryz.prog 133 #[.int .i64 v, .int .i64 10] w' fun e w'' => e = .returned (.string ⟨(Lib.itoa v).toArray⟩) ∧ Below w'.heap.size w' w'') :
    Calls Tryz.prog 116 #[.string s] w fun e w' => e = .returned (.tuple #[.int .i64 0, .bool false]) ∧ Below w.heap.size w w' := by
  have HS := Lib.hid hs; clear hs
  go_enter Tryz.func116, Tryz.ntmps116
  go_wp2_with (first | (go_at_call 129; refine (Tryz.strings_TrimPrefix _ _ _).mono ?_; rintro e w' ⟨rfl, rfl⟩) | (go_at_call 130; refine hP.mono ?_; rintro e w1 ⟨rfl, hw1⟩) | (go_at_call 133; refine (hF _ hw1).mono ?_; rintro e w2 ⟨rfl, hw2⟩) | go_in)
  all_goals first
    | (exfalso; omega)
    | skip
  · go_ret2; exact ⟨rfl, hw1.trans (hw2.mono hw1.size)⟩
  · rename_i h
    exfalso
    apply HS.out
    simpa [Lib.toList_data] using h
end
theorem rd_walk : RdWalk Tryz.prog 116 130 133 := ⟨⟨_, Tryz.func116, by decide +kernel, rfl⟩, rd_long, rd_bad, rd_ok, rd_no⟩
theorem ok_impl_ReadDecimal : FOk Tryz.prog phi 522 impl_ReadDecimal_c := readDecimal_ok Tryz.laysC174 Tryz.laysM173 ⟨3, by kernel_rfl⟩ (by kernel_rfl) (by kernel_rfl) rd_walk (by kernel_rfl)
theorem ck_impl_ReadList : chkFn Tryz.prog phi 457 impl_ReadList_ir = true := by kernel_rfl
theorem ok_impl_ReadList : FOk Tryz.prog phi 457 impl_ReadList_c := fn_ok hm (D := impl_ReadList_D) (DOk.cons ok_impl_within (DOk.cons ok_impl_ReadDecimal (DOk.cons ok_strings_Split DOk.nil))) ck_impl_ReadList _ _ _ _
theorem ck_impl_readNamed : chkFn Tryz.prog phi 747 impl_readNamed_ir = true := by kernel_rfl
theorem ok_impl_readNamed : FOk Tryz.prog phi 747 impl_readNamed_c := fn_ok hm (D := impl_readNamed_D) (DOk.cons ok_impl_ReadList (DOk.cons ok_strings_Cut DOk.nil)) ck_impl_readNamed _ _ _ _
theorem ck_impl_ReadRib : chkFn Tryz.prog phi 340 impl_ReadRib_ir = true := by kernel_rfl
theorem ok_impl_ReadRib : FOk Tryz.prog phi 340 impl_ReadRib_c := fn_ok hm (D := impl_ReadRib_D) (DOk.cons ok_impl_readNamed (DOk.cons ok_impl_Rib_valid DOk.nil)) ck_impl_ReadRib _ _ _ _
theorem ck_spec_l01Small : chkFn Tryz.prog phi 11 spec_l01Small_ir = true := by kernel_rfl
theorem ok_spec_l01Small : FOk Tryz.prog phi 11 spec_l01Small_c := fn_ok hm (D := spec_l01Small_D) DOk.nil ck_spec_l01Small _ _ _ _
theorem ck_spec_l01Digit : chkFn Tryz.prog phi 12 spec_l01Digit_ir = true := by kernel_rfl
theorem ok_spec_l01Digit : FOk Tryz.prog phi 12 spec_l01Digit_c := fn_ok hm (D := spec_l01Digit_D) DOk.nil ck_spec_l01Digit _ _ _ _
theorem ck_spec_l01Name : chkFn Tryz.prog phi 13 spec_l01Name_ir = true := by kernel_rfl
theorem ok_spec_l01Name : FOk Tryz.prog phi 13 spec_l01Name_c := fn_ok hm (D := spec_l01Name_D) (DOk.cons ok_spec_l01Small (DOk.cons ok_spec_l01Digit DOk.nil)) ck_spec_l01Name _ _ _ _
theorem ck_spec_l00In : chkFn Tryz.prog phi 1 spec_l00In_ir = true := by kernel_rfl
theorem ok_spec_l00In : FOk Tryz.prog phi 1 spec_l00In_c := fn_ok hm (D := spec_l00In_D) DOk.nil ck_spec_l00In _ _ _ _
theorem ck_spec_l06Size : chkFn Tryz.prog phi 962 spec_l06Size_ir = true := by kernel_rfl
theorem ok_spec_l06Size : FOk Tryz.prog phi 962 spec_l06Size_c := fn_ok hm (D := spec_l06Size_D) (DOk.cons ok_spec_l00In DOk.nil) ck_spec_l06Size _ _ _ _
theorem ck_spec_l06One : chkFn Tryz.prog phi 764 spec_l06One_ir = true := by kernel_rfl
theorem ok_spec_l06One : FOk Tryz.prog phi 764 spec_l06One_c := fn_ok hm (D := spec_l06One_D) (DOk.cons ok_spec_l01Name (DOk.cons ok_spec_l06Size DOk.nil)) ck_spec_l06One _ _ _ _
theorem ck_spec_l01List : chkFn Tryz.prog phi 963 spec_l01List_ir = true := by kernel_rfl
theorem ok_spec_l01List : FOk Tryz.prog phi 963 spec_l01List_c := fn_ok hm (D := spec_l01List_D) (DOk.cons ok_spec_l01Dec DOk.nil) ck_spec_l01List _ _ _ _
theorem ck_spec_l06Text : chkFn Tryz.prog phi 763 spec_l06Text_ir = true := by kernel_rfl
theorem ok_spec_l06Text : FOk Tryz.prog phi 763 spec_l06Text_c := fn_ok hm (D := spec_l06Text_D) (DOk.cons ok_spec_l01List DOk.nil) ck_spec_l06Text _ _ _ _
theorem ck_spec_RibText : chkFn Tryz.prog phi 339 spec_RibText_ir = true := by kernel_rfl
theorem ok_spec_RibText : FOk Tryz.prog phi 339 spec_RibText_c := fn_ok hm (D := spec_RibText_D) (DOk.cons ok_spec_l06Text (DOk.cons ok_spec_l06One DOk.nil)) ck_spec_RibText _ _ _ _
theorem ck_laws_FnMoulds : chkFn Tryz.prog phi 1233 laws_FnMoulds_ir = true := by kernel_rfl
theorem ok_laws_FnMoulds : FOk Tryz.prog phi 1233 laws_FnMoulds_c := fn_ok hm (D := laws_FnMoulds_D) (DOk.cons ok_laws_b10Abs (DOk.cons ok_laws_b10Long (DOk.cons ok_spec_RibText (DOk.cons ok_impl_ReadRib (DOk.cons ok_impl_RibText (DOk.cons ok_spec_DrawRibText (DOk.cons ok_impl_BlocksAt (DOk.cons ok_spec_DrawBlocksAt (DOk.cons ok_impl_MouldGap (DOk.cons ok_impl_RibsLength (DOk.cons ok_impl_StretchRibs (DOk.cons ok_spec_DrawStretchRibs DOk.nil)))))))))))) ck_laws_FnMoulds _ _ _ _
theorem law : ∀ x, wfU laws_FnMoulds_c.ps x → ∃ y, laws_FnMoulds_c.f x = some y ∧ resA laws_FnMoulds_c y = ([A.bool true], []) := fun x hx => ⟨true, (laws_FnMoulds_true x.1 x.2.1 hx.1 hx.2.1), rfl⟩
theorem own : ownKnob Tryz.prog.godebug = none := by kernel_rfl
theorem laid : laidOutB Tryz.prog = true := by kernel_rfl
theorem reads : ∀ t ∈ Tryz.f4.params.toList, Tryz.prog.readableRec t = true ∧ t < Tryz.prog.types.size := by
  have h : (Tryz.f4.params.toList.all fun t => Tryz.prog.readableRec t && decide (t < Tryz.prog.types.size)) = true := by kernel_rfl
  intro t ht
  have := List.all_eq_true.1 h t ht
  simpa only [Bool.and_eq_true, decide_eq_true_eq] using this
theorem spec_eq (H : Type) : ∀ (ds : List (DataW H)), ds.length = Tryz.f4.params.toList.length → Rows.fnMouldsSpec.fn H ds = { results := [.lit (.bool true)], args := ds } := by
  intro ds hd
  have hd : ds.length = 2 := hd
  match ds, hd with
  | [d0, d1], _ => rfl
theorem tab (W : World) (hL : laidMetH Tryz.prog Rows.fnMouldsRow.laid W) : ∀ i, Tryz.prog.globalNamed pow10Name = some i → Lib.TabIs Tryz.prog W pow10Name .u64 Lib.pow10Tab := by
  intro i hi
  have hp : (Rows.fnMouldsRow.laid.all fun x => x.2.handleName?.isNone) = true := by kernel_rfl
  rw [MakeChecks.laidMetH_plain _ _ _ hp] at hL
  have h1 : laidMet Tryz.prog (("internal/strconv.uint64pow10", Rows.laid_internal_strconv_uint64pow10) :: [("unicode/utf8.acceptRanges", Rows.laid_unicode_utf8_acceptRanges), ("strconv.ErrRange", Rows.laid_strconv_ErrRange), ("strconv.ErrSyntax", Rows.laid_strconv_ErrSyntax), ("unicode/utf8.first", Rows.laid_unicode_utf8_first)]) W := (laidMet.tail (laidMet.tail hL))
  have e : (Rows.laid_internal_strconv_uint64pow10 : DataW Unit) = Lib.tabData .u64 Lib.pow10Tab := by kernel_rfl
  rw [e] at h1
  exact Lib.tabIs_of_head (t := 189) (e := 112) (n := 20) hi (by obtain rfl := Option.some.inj ((show Tryz.prog.globalNamed pow10Name = some 3 by kernel_rfl).symm.trans hi); kernel_rfl) (by kernel_rfl) (by kernel_rfl) (by kernel_rfl) (by kernel_rfl) h1
theorem errs (W : World) (hL : laidMetH Tryz.prog Rows.fnMouldsRow.laid W) : ∀ n, errNames.contains n = true → ∀ i, Tryz.prog.globalNamed n = some i → ∃ u v, W.var? Tryz.prog n = some #[.iface u v] := by
  intro n hn i hi
  have hn : n = "strconv.ErrSyntax" ∨ n = "strconv.ErrRange" := by simpa [errNames] using hn
  have hp : (Rows.fnMouldsRow.laid.all fun x => x.2.handleName?.isNone) = true := by kernel_rfl
  rw [MakeChecks.laidMetH_plain _ _ _ hp] at hL
  rcases hn with rfl | rfl
  · have h1 : laidMet Tryz.prog (("strconv.ErrSyntax", Rows.laid_strconv_ErrSyntax) :: [("unicode/utf8.first", Rows.laid_unicode_utf8_first)]) W := (laidMet.tail (laidMet.tail (laidMet.tail (laidMet.tail (laidMet.tail hL)))))
    exact laid_iface (ti := 137) h1 ⟨_, _, rfl⟩ hi (by obtain rfl := Option.some.inj ((show Tryz.prog.globalNamed "strconv.ErrSyntax" = some 1 by kernel_rfl).symm.trans hi); kernel_rfl) Tryz.underlying137
  · have h1 : laidMet Tryz.prog (("strconv.ErrRange", Rows.laid_strconv_ErrRange) :: [("strconv.ErrSyntax", Rows.laid_strconv_ErrSyntax), ("unicode/utf8.first", Rows.laid_unicode_utf8_first)]) W := (laidMet.tail (laidMet.tail (laidMet.tail (laidMet.tail hL))))
    exact laid_iface (ti := 137) h1 ⟨_, _, rfl⟩ hi (by obtain rfl := Option.some.inj ((show Tryz.prog.globalNamed "strconv.ErrRange" = some 2 by kernel_rfl).symm.trans hi); kernel_rfl) Tryz.underlying137
theorem contract (H : Type) (enc : TypeId × Value → H) (W : World) (base : Nat) (args : Array Value) (ds gs : List (DataW H)) (before : List MemPlace)
    (hval : ∀ (j : Nat) t v, Tryz.f4.params[j]? = some t → args[j]? = some v → Value.okWide Tryz.prog W .any base t v)
    (hW : DataW.Whole enc Tryz.prog Tryz.f4.params.toList Rows.fnMouldsSpec.vars false W args.toList ds gs before) (hL : laidMetH Tryz.prog Rows.fnMouldsRow.laid W) (hsh : W.ShapedOpen Tryz.prog) :
    Calls Tryz.prog 4 args W fun e W' => ∃ v, e = .returned v ∧ Rows.fnMouldsSpec.post enc Tryz.prog Tryz.f4 false true false false W args v W' :=
  row_contract (φ := phi) (g := 1233) (n := 20) ok_laws_FnMoulds rfl rfl (tb := 4) Tryz.underlying4 (by kernel_rfl) rfl law laid reads spec_eq W base args ds gs before hval hW (Glob.start hsh (tab W hL) (errs W hL))
theorem lifted (os : Os) (started : os.Started) (H : Type) (enc : TypeId × Value → H) :
    ReturnsInHanded {} Tryz.checked os 4 .any (fun w args => (Rows.fnMouldsSpec.pre enc Tryz.prog Tryz.f4 Rows.fnMouldsRow.domain false w args ∧ laidMetH Tryz.prog Rows.fnMouldsRow.laid w) ∧ sizedMet enc Tryz.prog Tryz.f4 (OpenSpec.ofChange Rows.fnMouldsSpec) false w args) (Rows.fnMouldsSpec.post enc Tryz.prog Tryz.f4 false true false false) := by
  refine returnsInHanded_laid (C := Tryz.checked) (laid := Rows.fnMouldsRow.laid) own started (by kernel_rfl) Tryz.func4
    (ChangeSpec.witness_shaped (enc := enc) (C := Tryz.checked) (os := os) (X := fun w _ => laidMetH Tryz.prog Rows.fnMouldsRow.laid w) false (World.laidAll Tryz.prog os Rows.fnMouldsRow.laid) #[.slice none 0 0, .slice none 0 0] 12 (World.laidAll_os _ _ _)
      (World.shaped_of_ZipB (by kernel_rfl) (by kernel_rfl)) (by kernel_rfl) (by kernel_rfl) (by kernel_rfl)
      (by rw [MakeChecks.laidMetH_plain _ _ _ (by kernel_rfl)]; exact laidMet_laidAll _ (by kernel_rfl) (by kernel_rfl))) ?_
  intro W base args ds gs before hval hW hL hsh
  exact contract H enc W base args ds gs before hval hW hL hsh
theorem over : Rows.fnMouldsRow.holds Tryz.pinned (OpenSpec.ofChange Rows.fnMouldsSpec) :=
  OpenClaim.holds_of_wide 4 Tryz.f4 rfl rfl rfl rfl rfl rfl rfl ⟨rfl, rfl, rfl, rfl, rfl⟩ rfl rfl rfl rfl rfl (by kernel_rfl) Tryz.func4 (by kernel_rfl)
    (of_decide_eq_true (by kernel_rfl)) (by unfold Func.isWrapper; first | (rw [if_pos (by decide +kernel)]; kernel_rfl) | (rw [if_neg (by decide +kernel)]; exact ⟨rfl, rfl⟩))
    (fun os started H enc _ => lifted os started H enc)
theorem card : Rows.FnMouldsCardSaid :=
  Claim7.holds_tied_plain_at .later [] [.data, .data, .data, .data, .sentinel, .sentinel, .pinned] true (true, "9b7772904419ea9a85f5da0650d787911d8a6b1e215ee7587b799541be605f0a") true over (fun _ h => by cases h) (by kernel_rfl) (fun _ h => by cases h) fnMoulds_row_tie rfl ⟨rfl, rfl⟩ (by kernel_rfl) rfl
    (fun f fn hf hfn => by
      obtain rfl : f = 4 := Option.some.inj ((show Tryz.prog.funcNamed "loop.example/g01061/laws.FnMoulds" = some 4 by kernel_rfl).symm.trans hf) |>.symm
      obtain rfl : fn = Tryz.f4 := (Option.some.inj (Tryz.func4.symm.trans hfn)).symm
      exact ⟨by kernel_rfl, fun j t ht => by
        have hm : t ∈ Tryz.f4.params.toList := by simpa using Array.mem_of_getElem? ht
        have hall : (Tryz.f4.params.toList.all fun u => !Tryz.prog.wantsStandIn u) = true := by kernel_rfl
        exact (show Tryz.prog.wantsStandIn t = false by simpa using List.all_eq_true.1 hall t hm)⟩)
    (by kernel_rfl)
/-- The statement. -/
theorem proved : Rows.FnMouldsCardSaid := card
end Go.Proofs.YtbijadelckpmjaaGreatDoor.fnMoulds
