/- The law FnPegs answers true for every input, whatever it is, and leaves its arguments as they were. Conditions: none. -/
import Derived.Test.YtflhphejcnomaaaGreatDoorQFnPegs
import Derived.Test.YtflhphejcnomaaaGreatDoorRows
import Derived.Test.YtflhphejcnomaaaGreatDoorL5
import Derived.Test.YtflhphejcnomaaaGreatDoorShelf
import Derived.Test.YtflhphejcnomaaaGreatDoorCards
import Derived.Test.YtflhphejcnomaaaGreatDoorTie
import Derived.LaidMore
import Derived.Lay
import Derived.SevenTiedAt
import Derived.Stop.Joined
import Derived.WalkKit
import Derived.ProofKit
import Derived.OpenShut
import Derived.JoinedOf
import Derived.Handed
set_option linter.unusedVariables false
set_option maxRecDepth 100000
namespace Go.Proofs.YtflhphejcnomaaaGreatDoor.fnPegs
open Go.Ab Go.Ab.P
open Go.ChangeShapes Go.WideShapes Go.ChangeAt Go.RowKit
def phiL : List (Nat × Nat) := [(76, 4), (441, 20), (847, 47), (463, 32), (793, 22), (445, 43), (794, 21), (642, 44), (792, 23), (386, 5), (22, 56), (21, 35), (24, 45), (23, 29), (500, 25), (796, 24), (795, 26), (385, 6), (501, 27), (797, 28), (384, 7), (27, 30), (383, 8), (66, 9), (726, 46), (467, 31), (798, 33), (382, 10), (468, 34), (624, 48), (499, 36), (122, 11), (69, 12), (11, 57), (12, 58), (13, 49), (1, 50), (495, 38), (800, 37), (17, 51), (799, 39), (379, 13), (381, 14), (380, 15), (378, 16), (864, 64), (524, 59), (630, 60), (460, 52), (459, 40), (377, 17), (523, 53), (683, 62), (522, 63), (457, 54), (747, 41), (376, 18), (963, 55), (801, 42), (375, 19), (1234, 3)]
def phi (n : Nat) : Nat := (phiL.lookup n).getD 1000000
theorem hm : Tryz.prog.follows .mixedOrders = true := by kernel_rfl
theorem ck_laws_b10Long : chkFn Tryz.prog phi 76 laws_b10Long_ir = true := by kernel_rfl
theorem ok_laws_b10Long : FOk Tryz.prog phi 76 laws_b10Long_c := fn_ok hm (D := laws_b10Long_D) DOk.nil ck_laws_b10Long _ _ _ _
theorem ck_spec_l00From : chkFn Tryz.prog phi 441 spec_l00From_ir = true := by kernel_rfl
theorem ok_spec_l00From : FOk Tryz.prog phi 441 spec_l00From_c := fn_ok hm (D := spec_l00From_D) DOk.nil ck_spec_l00From _ _ _ _
theorem ck_spec_l00Src_next : chkFn Tryz.prog phi 847 spec_l00Src_next_ir = true := by kernel_rfl
theorem ok_spec_l00Src_next : FOk Tryz.prog phi 847 spec_l00Src_next_c := fn_ok hm (D := spec_l00Src_next_D) DOk.nil ck_spec_l00Src_next _ _ _ _
theorem ck_spec_l00Src_pick : chkFn Tryz.prog phi 463 spec_l00Src_pick_ir = true := by kernel_rfl
theorem ok_spec_l00Src_pick : FOk Tryz.prog phi 463 spec_l00Src_pick_c := fn_ok hm (D := spec_l00Src_pick_D) (DOk.cons ok_spec_l00Src_next DOk.nil) ck_spec_l00Src_pick _ _ _ _
theorem ck_spec_l12DrawOne : chkFn Tryz.prog phi 793 spec_l12DrawOne_ir = true := by kernel_rfl
theorem ok_spec_l12DrawOne : FOk Tryz.prog phi 793 spec_l12DrawOne_c := fn_ok hm (D := spec_l12DrawOne_D) (DOk.cons ok_spec_l00Src_pick DOk.nil) ck_spec_l12DrawOne _ _ _ _
theorem ck_spec_l00Src_among : chkFn Tryz.prog phi 445 spec_l00Src_among_ir = true := by kernel_rfl
theorem ok_spec_l00Src_among : FOk Tryz.prog phi 445 spec_l00Src_among_c := fn_ok hm (D := spec_l00Src_among_D) (DOk.cons ok_spec_l00Src_pick DOk.nil) ck_spec_l00Src_among _ _ _ _
theorem ck_spec_l12Bent : chkFn Tryz.prog phi 794 spec_l12Bent_ir = true := by kernel_rfl
theorem ok_spec_l12Bent : FOk Tryz.prog phi 794 spec_l12Bent_c := fn_ok hm (D := spec_l12Bent_D) (DOk.cons ok_spec_l00Src_among (DOk.cons ok_spec_l00Src_pick DOk.nil)) ck_spec_l12Bent _ _ _ _
theorem ck_spec_l00Src_one : chkFn Tryz.prog phi 642 spec_l00Src_one_ir = true := by kernel_rfl
theorem ok_spec_l00Src_one : FOk Tryz.prog phi 642 spec_l00Src_one_c := fn_ok hm (D := spec_l00Src_one_D) (DOk.cons ok_spec_l00Src_pick DOk.nil) ck_spec_l00Src_one _ _ _ _
theorem ck_spec_l12DrawHole : chkFn Tryz.prog phi 792 spec_l12DrawHole_ir = true := by kernel_rfl
theorem ok_spec_l12DrawHole : FOk Tryz.prog phi 792 spec_l12DrawHole_c := fn_ok hm (D := spec_l12DrawHole_D) (DOk.cons ok_spec_l00Src_among (DOk.cons ok_spec_l00Src_pick (DOk.cons ok_spec_l00Src_one DOk.nil))) ck_spec_l12DrawHole _ _ _ _
theorem ck_spec_DrawWayIn : chkFn Tryz.prog phi 386 spec_DrawWayIn_ir = true := by kernel_rfl
theorem ok_spec_DrawWayIn : FOk Tryz.prog phi 386 spec_DrawWayIn_c := fn_ok hm (D := spec_DrawWayIn_D) (DOk.cons ok_spec_l00From (DOk.cons ok_spec_l12DrawHole (DOk.cons ok_spec_l12DrawOne (DOk.cons ok_spec_l12Bent DOk.nil)))) ck_spec_DrawWayIn _ _ _ _
theorem ck_impl_isDigit : chkFn Tryz.prog phi 22 impl_isDigit_ir = true := by kernel_rfl
theorem ok_impl_isDigit : FOk Tryz.prog phi 22 impl_isDigit_c := fn_ok hm (D := impl_isDigit_D) DOk.nil ck_impl_isDigit _ _ _ _
theorem ck_impl_few : chkFn Tryz.prog phi 21 impl_few_ir = true := by kernel_rfl
theorem ok_impl_few : FOk Tryz.prog phi 21 impl_few_c := fn_ok hm (D := impl_few_D) DOk.nil ck_impl_few _ _ _ _
theorem ck_impl_IsName : chkFn Tryz.prog phi 24 impl_IsName_ir = true := by kernel_rfl
theorem ok_impl_IsName : FOk Tryz.prog phi 24 impl_IsName_c := fn_ok hm (D := impl_IsName_D) (DOk.cons ok_impl_few (DOk.cons ok_impl_isDigit DOk.nil)) ck_impl_IsName _ _ _ _
theorem ck_impl_within : chkFn Tryz.prog phi 23 impl_within_ir = true := by kernel_rfl
theorem ok_impl_within : FOk Tryz.prog phi 23 impl_within_c := fn_ok hm (D := impl_within_D) DOk.nil ck_impl_within _ _ _ _
theorem ck_impl_isHole : chkFn Tryz.prog phi 500 impl_isHole_ir = true := by kernel_rfl
theorem ok_impl_isHole : FOk Tryz.prog phi 500 impl_isHole_c := fn_ok hm (D := impl_isHole_D) (DOk.cons ok_impl_within DOk.nil) ck_impl_isHole _ _ _ _
theorem ck_impl_Peg_valid : chkFn Tryz.prog phi 796 impl_Peg_valid_ir = true := by kernel_rfl
theorem ok_impl_Peg_valid : FOk Tryz.prog phi 796 impl_Peg_valid_c := fn_ok hm (D := impl_Peg_valid_D) (DOk.cons ok_impl_within (DOk.cons ok_impl_IsName (DOk.cons ok_impl_isHole DOk.nil))) ck_impl_Peg_valid _ _ _ _
theorem ck_impl_Peg_wayIn : chkFn Tryz.prog phi 795 impl_Peg_wayIn_ir = true := by kernel_rfl
theorem ok_impl_Peg_wayIn : FOk Tryz.prog phi 795 impl_Peg_wayIn_c := fn_ok hm (D := impl_Peg_wayIn_D) DOk.nil ck_impl_Peg_wayIn _ _ _ _
theorem ck_impl_WayIn : chkFn Tryz.prog phi 385 impl_WayIn_ir = true := by kernel_rfl
theorem ok_impl_WayIn : FOk Tryz.prog phi 385 impl_WayIn_c := fn_ok hm (D := impl_WayIn_D) (DOk.cons ok_impl_isHole (DOk.cons ok_impl_Peg_wayIn (DOk.cons ok_impl_Peg_valid DOk.nil))) ck_impl_WayIn _ _ _ _
theorem ck_impl_isWay : chkFn Tryz.prog phi 501 impl_isWay_ir = true := by kernel_rfl
theorem ok_impl_isWay : FOk Tryz.prog phi 501 impl_isWay_c := fn_ok hm (D := impl_isWay_D) (DOk.cons ok_impl_within DOk.nil) ck_impl_isWay _ _ _ _
theorem ck_impl_Peg_at : chkFn Tryz.prog phi 797 impl_Peg_at_ir = true := by kernel_rfl
theorem ok_impl_Peg_at : FOk Tryz.prog phi 797 impl_Peg_at_c := fn_ok hm (D := impl_Peg_at_D) DOk.nil ck_impl_Peg_at _ _ _ _
theorem ck_impl_PegAt : chkFn Tryz.prog phi 384 impl_PegAt_ir = true := by kernel_rfl
theorem ok_impl_PegAt : FOk Tryz.prog phi 384 impl_PegAt_c := fn_ok hm (D := impl_PegAt_D) (DOk.cons ok_impl_isWay (DOk.cons ok_impl_Peg_valid (DOk.cons ok_impl_Peg_at DOk.nil))) ck_impl_PegAt _ _ _ _
theorem ck_impl_divRound : chkFn Tryz.prog phi 27 impl_divRound_ir = true := by kernel_rfl
theorem ok_impl_divRound : FOk Tryz.prog phi 27 impl_divRound_c := fn_ok hm (D := impl_divRound_D) DOk.nil ck_impl_divRound _ _ _ _
theorem ck_impl_TurnFor : chkFn Tryz.prog phi 383 impl_TurnFor_ir = true := by kernel_rfl
theorem ok_impl_TurnFor : FOk Tryz.prog phi 383 impl_TurnFor_c := fn_ok hm (D := impl_TurnFor_D) (DOk.cons ok_impl_within (DOk.cons ok_impl_divRound (DOk.cons ok_impl_WayIn (DOk.cons ok_impl_isHole (DOk.cons ok_impl_Peg_valid (DOk.cons ok_impl_Peg_at DOk.nil)))))) ck_impl_TurnFor _ _ _ _
theorem ck_laws_b10Abs : chkFn Tryz.prog phi 66 laws_b10Abs_ir = true := by kernel_rfl
theorem ok_laws_b10Abs : FOk Tryz.prog phi 66 laws_b10Abs_c := fn_ok hm (D := laws_b10Abs_D) DOk.nil ck_laws_b10Abs _ _ _ _
theorem ck_spec_l01Dec : chkFn Tryz.prog phi 726 spec_l01Dec_ir = true := by kernel_rfl
theorem ok_spec_l01Dec : FOk Tryz.prog phi 726 spec_l01Dec_c := fn_ok hm (D := spec_l01Dec_D) DOk.nil ck_spec_l01Dec _ _ _ _
theorem ck_spec_l12Draw : chkFn Tryz.prog phi 467 spec_l12Draw_ir = true := by kernel_rfl
theorem ok_spec_l12Draw : FOk Tryz.prog phi 467 spec_l12Draw_c := fn_ok hm (D := spec_l12Draw_D) (DOk.cons ok_spec_l00Src_among (DOk.cons ok_spec_l00Src_pick (DOk.cons ok_spec_l00Src_one (DOk.cons ok_spec_l01Dec (DOk.cons ok_spec_l12DrawOne (DOk.cons ok_spec_l12Bent DOk.nil)))))) ck_spec_l12Draw _ _ _ _
theorem ck_spec_l12DrawWay : chkFn Tryz.prog phi 798 spec_l12DrawWay_ir = true := by kernel_rfl
theorem ok_spec_l12DrawWay : FOk Tryz.prog phi 798 spec_l12DrawWay_c := fn_ok hm (D := spec_l12DrawWay_D) (DOk.cons ok_spec_l00Src_among (DOk.cons ok_spec_l00Src_pick (DOk.cons ok_spec_l00Src_one DOk.nil))) ck_spec_l12DrawWay _ _ _ _
theorem ck_spec_DrawFitPegs : chkFn Tryz.prog phi 382 spec_DrawFitPegs_ir = true := by kernel_rfl
theorem ok_spec_DrawFitPegs : FOk Tryz.prog phi 382 spec_DrawFitPegs_c := fn_ok hm (D := spec_DrawFitPegs_D) (DOk.cons ok_spec_l00From (DOk.cons ok_spec_l00Src_pick (DOk.cons ok_spec_l12Draw (DOk.cons ok_spec_l12DrawHole (DOk.cons ok_spec_l12DrawWay DOk.nil))))) ck_spec_DrawFitPegs _ _ _ _
theorem ck_impl_ValidPegs : chkFn Tryz.prog phi 468 impl_ValidPegs_ir = true := by kernel_rfl
theorem ok_impl_ValidPegs : FOk Tryz.prog phi 468 impl_ValidPegs_c := fn_ok hm (D := impl_ValidPegs_D) (DOk.cons ok_impl_few (DOk.cons ok_impl_Peg_valid DOk.nil)) ck_impl_ValidPegs _ _ _ _
theorem ck_impl_clone_int64_ : chkFn Tryz.prog phi 624 impl_clone_int64__ir = true := by kernel_rfl
theorem ok_impl_clone_int64_ : FOk Tryz.prog phi 624 impl_clone_int64__c := fn_ok hm (D := impl_clone_int64__D) DOk.nil ck_impl_clone_int64_ _ _ _ _
theorem ck_impl_fit : chkFn Tryz.prog phi 499 impl_fit_ir = true := by kernel_rfl
theorem ok_impl_fit_N : ∀ n, FOk Tryz.prog phi 499 (impl_fit_N n)
  | 0 => FOk.none (fn_ok hm (D := []) DOk.nil ck_impl_fit [] [] [] []).1
  | n + 1 => by rw [impl_fit_N_eq]; exact fn_ok hm (D := impl_fit_D n) (DOk.cons (ok_impl_fit_N n) (DOk.cons ok_impl_clone_int64_ (DOk.cons ok_impl_Peg_wayIn DOk.nil))) ck_impl_fit _ _ _ _
theorem ok_impl_fit : FOk Tryz.prog phi 499 impl_fit_c := ok_impl_fit_N 1000
theorem ck_impl_FitPegs : chkFn Tryz.prog phi 122 impl_FitPegs_ir = true := by kernel_rfl
theorem ok_impl_FitPegs : FOk Tryz.prog phi 122 impl_FitPegs_c := fn_ok hm (D := impl_FitPegs_D) (DOk.cons ok_impl_few (DOk.cons ok_impl_ValidPegs (DOk.cons ok_impl_fit (DOk.cons ok_impl_isHole (DOk.cons ok_impl_isWay DOk.nil))))) ck_impl_FitPegs _ _ _ _
theorem ck_laws_b10Has : chkFn Tryz.prog phi 69 laws_b10Has_ir = true := by kernel_rfl
theorem ok_laws_b10Has : FOk Tryz.prog phi 69 laws_b10Has_c := fn_ok hm (D := laws_b10Has_D) DOk.nil ck_laws_b10Has _ _ _ _
theorem ck_spec_l01Small : chkFn Tryz.prog phi 11 spec_l01Small_ir = true := by kernel_rfl
theorem ok_spec_l01Small : FOk Tryz.prog phi 11 spec_l01Small_c := fn_ok hm (D := spec_l01Small_D) DOk.nil ck_spec_l01Small _ _ _ _
theorem ck_spec_l01Digit : chkFn Tryz.prog phi 12 spec_l01Digit_ir = true := by kernel_rfl
theorem ok_spec_l01Digit : FOk Tryz.prog phi 12 spec_l01Digit_c := fn_ok hm (D := spec_l01Digit_D) DOk.nil ck_spec_l01Digit _ _ _ _
theorem ck_spec_l01Name : chkFn Tryz.prog phi 13 spec_l01Name_ir = true := by kernel_rfl
theorem ok_spec_l01Name : FOk Tryz.prog phi 13 spec_l01Name_c := fn_ok hm (D := spec_l01Name_D) (DOk.cons ok_spec_l01Small (DOk.cons ok_spec_l01Digit DOk.nil)) ck_spec_l01Name _ _ _ _
theorem ck_spec_l00In : chkFn Tryz.prog phi 1 spec_l00In_ir = true := by kernel_rfl
theorem ok_spec_l00In : FOk Tryz.prog phi 1 spec_l00In_c := fn_ok hm (D := spec_l00In_D) DOk.nil ck_spec_l00In _ _ _ _
theorem ck_spec_l12Hole : chkFn Tryz.prog phi 495 spec_l12Hole_ir = true := by kernel_rfl
theorem ok_spec_l12Hole : FOk Tryz.prog phi 495 spec_l12Hole_c := fn_ok hm (D := spec_l12Hole_D) (DOk.cons ok_spec_l00In DOk.nil) ck_spec_l12Hole _ _ _ _
theorem ck_spec_l12One : chkFn Tryz.prog phi 800 spec_l12One_ir = true := by kernel_rfl
theorem ok_spec_l12One : FOk Tryz.prog phi 800 spec_l12One_c := fn_ok hm (D := spec_l12One_D) (DOk.cons ok_spec_l00In (DOk.cons ok_spec_l01Name (DOk.cons ok_spec_l12Hole DOk.nil))) ck_spec_l12One _ _ _ _
theorem ck_spec_l00Max : chkFn Tryz.prog phi 17 spec_l00Max_ir = true := by kernel_rfl
theorem ok_spec_l00Max : FOk Tryz.prog phi 17 spec_l00Max_c := fn_ok hm (D := spec_l00Max_D) DOk.nil ck_spec_l00Max _ _ _ _
theorem ck_spec_l12In : chkFn Tryz.prog phi 799 spec_l12In_ir = true := by kernel_rfl
theorem ok_spec_l12In : FOk Tryz.prog phi 799 spec_l12In_c := fn_ok hm (D := spec_l12In_D) (DOk.cons ok_spec_l00Max DOk.nil) ck_spec_l12In _ _ _ _
theorem ck_spec_WayIn : chkFn Tryz.prog phi 379 spec_WayIn_ir = true := by kernel_rfl
theorem ok_spec_WayIn : FOk Tryz.prog phi 379 spec_WayIn_c := fn_ok hm (D := spec_WayIn_D) (DOk.cons ok_spec_l12Hole (DOk.cons ok_spec_l12In (DOk.cons ok_spec_l12One DOk.nil))) ck_spec_WayIn _ _ _ _
theorem ck_spec_DrawReamTo : chkFn Tryz.prog phi 381 spec_DrawReamTo_ir = true := by kernel_rfl
theorem ok_spec_DrawReamTo : FOk Tryz.prog phi 381 spec_DrawReamTo_c := fn_ok hm (D := spec_DrawReamTo_D) (DOk.cons ok_spec_l00From (DOk.cons ok_spec_l12DrawHole (DOk.cons ok_spec_l12DrawOne (DOk.cons ok_spec_l12Bent (DOk.cons ok_spec_l12DrawWay DOk.nil))))) ck_spec_DrawReamTo _ _ _ _
theorem ck_impl_ReamTo : chkFn Tryz.prog phi 380 impl_ReamTo_ir = true := by kernel_rfl
theorem ok_impl_ReamTo : FOk Tryz.prog phi 380 impl_ReamTo_c := fn_ok hm (D := impl_ReamTo_D) (DOk.cons ok_impl_isHole (DOk.cons ok_impl_isWay (DOk.cons ok_impl_Peg_wayIn (DOk.cons ok_impl_Peg_valid DOk.nil)))) ck_impl_ReamTo _ _ _ _
theorem ck_spec_DrawPegText : chkFn Tryz.prog phi 378 spec_DrawPegText_ir = true := by kernel_rfl
theorem ok_spec_DrawPegText : FOk Tryz.prog phi 378 spec_DrawPegText_c := fn_ok hm (D := spec_DrawPegText_D) (DOk.cons ok_spec_l00From (DOk.cons ok_spec_l12DrawOne (DOk.cons ok_spec_l12Bent DOk.nil))) ck_spec_DrawPegText _ _ _ _
theorem ok_strconv_FormatInt : FOk Tryz.prog phi 864 strconv_FormatInt_c := formatInt_ok Tryz.laysM173 ⟨1, by kernel_rfl⟩ (by kernel_rfl)
theorem ck_impl_Decimal : chkFn Tryz.prog phi 524 impl_Decimal_ir = true := by kernel_rfl
theorem ok_impl_Decimal : FOk Tryz.prog phi 524 impl_Decimal_c := fn_ok hm (D := impl_Decimal_D) (DOk.cons ok_strconv_FormatInt DOk.nil) ck_impl_Decimal _ _ _ _
theorem ok_strings_Join : FOk Tryz.prog phi 630 strings_Join_c := join_ok Tryz.lays156 Tryz.Builder_Extra_156 (by kernel_rfl)
theorem ck_impl_ListText : chkFn Tryz.prog phi 460 impl_ListText_ir = true := by kernel_rfl
theorem ok_impl_ListText : FOk Tryz.prog phi 460 impl_ListText_c := fn_ok hm (D := impl_ListText_D) (DOk.cons ok_impl_few (DOk.cons ok_impl_within (DOk.cons ok_impl_Decimal (DOk.cons ok_strings_Join DOk.nil)))) ck_impl_ListText _ _ _ _
theorem ck_impl_named : chkFn Tryz.prog phi 459 impl_named_ir = true := by kernel_rfl
theorem ok_impl_named : FOk Tryz.prog phi 459 impl_named_c := fn_ok hm (D := impl_named_D) (DOk.cons ok_impl_ListText DOk.nil) ck_impl_named _ _ _ _
theorem ck_impl_PegText : chkFn Tryz.prog phi 377 impl_PegText_ir = true := by kernel_rfl
theorem ok_impl_PegText : FOk Tryz.prog phi 377 impl_PegText_c := fn_ok hm (D := impl_PegText_D) (DOk.cons ok_impl_named (DOk.cons ok_impl_Peg_valid DOk.nil)) ck_impl_PegText _ _ _ _
theorem ok_strings_Cut : FOk Tryz.prog phi 523 strings_Cut_c := cut_ok Tryz.laysM145 (of_decide_eq_true (by kernel_rfl)) (by kernel_rfl)
theorem ok_strings_Split : FOk Tryz.prog phi 683 strings_Split_c := split_ok Tryz.laysM146 (of_decide_eq_true (by kernel_rfl)) (by kernel_rfl)
section
open Go.Lib
theorem rd_long (s : ByteArray) (w : World) (hl : 18 < (Lib.trimPrefix s.data.toList [45]).length) :
    Calls Tryz.prog 63 #[.string s] w fun e w' => e = .returned (.tuple #[.int .i64 0, .bool false]) ∧ Below w.heap.size w w' := by
  go_enter Tryz.func63, Tryz.ntmps63
  go_wp2_with (go_at_call 70; refine (Tryz.strings_TrimPrefix _ _ _).mono ?_; rintro e w' ⟨rfl, rfl⟩)
  all_goals first
    | (exfalso; omega)
    | (go_ret2; exact ⟨rfl, Below.refl _ _⟩)
theorem rd_bad (s : ByteArray) (w : World) (hl : ¬ 18 < (Lib.trimPrefix s.data.toList [45]).length) (m : Int) (u : TypeId) (hP : Calls Tryz.prog 71 #[.string s, .int .i64 10, .int .i64 64] w fun e w' => ∃ x, e = .returned (.tuple #[.int .i64 m, .iface u x]) ∧ Below w.heap.size w w') :
    Calls Tryz.prog 63 #[.string s] w fun e w' => e = .returned (.tuple #[.int .i64 0, .bool false]) ∧ Below w.heap.size w w' := by
  go_enter Tryz.func63, Tryz.ntmps63
  go_wp2_with (first | (go_at_call 70; refine (Tryz.strings_TrimPrefix _ _ _).mono ?_; rintro e w' ⟨rfl, rfl⟩) | (go_at_call 71; refine hP.mono ?_; rintro e w1 ⟨x, rfl, hw1⟩))
  all_goals first
    | (exfalso; omega)
    | (go_ret2; exact ⟨rfl, hw1⟩)
theorem rd_ok (s : ByteArray) (w : World) (hl : ¬ 18 < (Lib.trimPrefix s.data.toList [45]).length) (v : Int) (hs : Lib.itoa v = s.data.toList) (hP : Calls Tryz.prog 71 #[.string s, .int .i64 10, .int .i64 64] w fun e w' => e = .returned (.tuple #[.int .i64 v, .nilIface]) ∧ Below w.heap.size w w')
    (hF : ∀ w', Below w.heap.size w w' → Calls Tryz.prog 64 #[.int .i64 v, .int .i64 10] w' fun e w'' => e = .returned (.string ⟨(Lib.itoa v).toArray⟩) ∧ Below w'.heap.size w' w'') :
    Calls Tryz.prog 63 #[.string s] w fun e w' => e = .returned (.tuple #[.int .i64 v, .bool true]) ∧ Below w.heap.size w w' := by
  have HS := Lib.hid hs; clear hs
  go_enter Tryz.func63, Tryz.ntmps63
  go_wp2_with (first | (go_at_call 70; refine (Tryz.strings_TrimPrefix _ _ _).mono ?_; rintro e w' ⟨rfl, rfl⟩) | (go_at_call 71; refine hP.mono ?_; rintro e w1 ⟨rfl, hw1⟩) | (go_at_call 64; refine (hF _ hw1).mono ?_; rintro e w2 ⟨rfl, hw2⟩) | go_in)
  all_goals first
    | (exfalso; omega)
    | skip
  · rename_i h
    exfalso
    rw [HS.out] at h
    simp [Lib.toList_data] at h
  · go_ret2; exact ⟨rfl, hw1.trans (hw2.mono hw1.size)⟩
theorem rd_no (s : ByteArray) (w : World) (hl : ¬ 18 < (Lib.trimPrefix s.data.toList [45]).length) (v : Int) (hs : Lib.itoa v ≠ s.data.toList) (hP : Calls Tryz.prog 71 #[.string s, .int .i64 10, .int .i64 64] w fun e w' => e = .returned (.tuple #[.int .i64 v, .nilIface]) ∧ Below w.heap.size w w')
    (hF : ∀ w', Below w.heap.size w w' → Calls Tryz.prog 64 #[.int .i64 v, .int .i64 10] w' fun e w'' => e = .returned (.string ⟨(Lib.itoa v).toArray⟩) ∧ Below w'.heap.size w' w'') :
    Calls Tryz.prog 63 #[.string s] w fun e w' => e = .returned (.tuple #[.int .i64 0, .bool false]) ∧ Below w.heap.size w w' := by
  have HS := Lib.hid hs; clear hs
  go_enter Tryz.func63, Tryz.ntmps63
  go_wp2_with (first | (go_at_call 70; refine (Tryz.strings_TrimPrefix _ _ _).mono ?_; rintro e w' ⟨rfl, rfl⟩) | (go_at_call 71; refine hP.mono ?_; rintro e w1 ⟨rfl, hw1⟩) | (go_at_call 64; refine (hF _ hw1).mono ?_; rintro e w2 ⟨rfl, hw2⟩) | go_in)
  all_goals first
    | (exfalso; omega)
    | skip
  · go_ret2; exact ⟨rfl, hw1.trans (hw2.mono hw1.size)⟩
  · rename_i h
    exfalso
    apply HS.out
    simpa [Lib.toList_data] using h
end
theorem rd_walk : RdWalk Tryz.prog 63 71 64 := ⟨⟨_, Tryz.func63, by decide +kernel, rfl⟩, rd_long, rd_bad, rd_ok, rd_no⟩
theorem ok_impl_ReadDecimal : FOk Tryz.prog phi 522 impl_ReadDecimal_c := readDecimal_ok Tryz.laysC174 Tryz.laysM173 ⟨1, by kernel_rfl⟩ (by kernel_rfl) (by kernel_rfl) rd_walk (by kernel_rfl)
theorem ck_impl_ReadList : chkFn Tryz.prog phi 457 impl_ReadList_ir = true := by kernel_rfl
theorem ok_impl_ReadList : FOk Tryz.prog phi 457 impl_ReadList_c := fn_ok hm (D := impl_ReadList_D) (DOk.cons ok_impl_within (DOk.cons ok_impl_ReadDecimal (DOk.cons ok_strings_Split DOk.nil))) ck_impl_ReadList _ _ _ _
theorem ck_impl_readNamed : chkFn Tryz.prog phi 747 impl_readNamed_ir = true := by kernel_rfl
theorem ok_impl_readNamed : FOk Tryz.prog phi 747 impl_readNamed_c := fn_ok hm (D := impl_readNamed_D) (DOk.cons ok_impl_ReadList (DOk.cons ok_strings_Cut DOk.nil)) ck_impl_readNamed _ _ _ _
theorem ck_impl_ReadPeg : chkFn Tryz.prog phi 376 impl_ReadPeg_ir = true := by kernel_rfl
theorem ok_impl_ReadPeg : FOk Tryz.prog phi 376 impl_ReadPeg_c := fn_ok hm (D := impl_ReadPeg_D) (DOk.cons ok_impl_readNamed (DOk.cons ok_impl_Peg_valid DOk.nil)) ck_impl_ReadPeg _ _ _ _
theorem ck_spec_l01List : chkFn Tryz.prog phi 963 spec_l01List_ir = true := by kernel_rfl
theorem ok_spec_l01List : FOk Tryz.prog phi 963 spec_l01List_c := fn_ok hm (D := spec_l01List_D) (DOk.cons ok_spec_l01Dec DOk.nil) ck_spec_l01List _ _ _ _
theorem ck_spec_l12Text : chkFn Tryz.prog phi 801 spec_l12Text_ir = true := by kernel_rfl
theorem ok_spec_l12Text : FOk Tryz.prog phi 801 spec_l12Text_c := fn_ok hm (D := spec_l12Text_D) (DOk.cons ok_spec_l01List DOk.nil) ck_spec_l12Text _ _ _ _
theorem ck_spec_PegText : chkFn Tryz.prog phi 375 spec_PegText_ir = true := by kernel_rfl
theorem ok_spec_PegText : FOk Tryz.prog phi 375 spec_PegText_c := fn_ok hm (D := spec_PegText_D) (DOk.cons ok_spec_l12One (DOk.cons ok_spec_l12Text DOk.nil)) ck_spec_PegText _ _ _ _
theorem ck_laws_FnPegs : chkFn Tryz.prog phi 1234 laws_FnPegs_ir = true := by kernel_rfl
theorem ok_laws_FnPegs : FOk Tryz.prog phi 1234 laws_FnPegs_c := fn_ok hm (D := laws_FnPegs_D) (DOk.cons ok_laws_b10Abs (DOk.cons ok_laws_b10Has (DOk.cons ok_laws_b10Long (DOk.cons ok_impl_FitPegs (DOk.cons ok_spec_PegText (DOk.cons ok_impl_ReadPeg (DOk.cons ok_impl_PegText (DOk.cons ok_spec_DrawPegText (DOk.cons ok_spec_WayIn (DOk.cons ok_impl_ReamTo (DOk.cons ok_spec_DrawReamTo (DOk.cons ok_spec_DrawFitPegs (DOk.cons ok_impl_TurnFor (DOk.cons ok_impl_PegAt (DOk.cons ok_impl_WayIn (DOk.cons ok_spec_DrawWayIn DOk.nil)))))))))))))))) ck_laws_FnPegs _ _ _ _
theorem law : ∀ x, wfU laws_FnPegs_c.ps x → ∃ y, laws_FnPegs_c.f x = some y ∧ resA laws_FnPegs_c y = ([A.bool true], []) := fun x hx => ⟨true, (laws_FnPegs_true x.1 x.2.1 hx.1 hx.2.1), rfl⟩
theorem own : ownKnob Tryz.prog.godebug = none := by kernel_rfl
theorem laid : laidOutB Tryz.prog = true := by kernel_rfl
theorem reads : ∀ t ∈ Tryz.f3.params.toList, Tryz.prog.readableRec t = true ∧ t < Tryz.prog.types.size := by
  have h : (Tryz.f3.params.toList.all fun t => Tryz.prog.readableRec t && decide (t < Tryz.prog.types.size)) = true := by kernel_rfl
  intro t ht
  have := List.all_eq_true.1 h t ht
  simpa only [Bool.and_eq_true, decide_eq_true_eq] using this
theorem spec_eq (H : Type) : ∀ (ds : List (DataW H)), ds.length = Tryz.f3.params.toList.length → Rows.fnPegsSpec.fn H ds = { results := [.lit (.bool true)], args := ds } := by
  intro ds hd
  have hd : ds.length = 2 := hd
  match ds, hd with
  | [d0, d1], _ => rfl
theorem tab (W : World) (hL : laidMetH Tryz.prog Rows.fnPegsRow.laid W) : ∀ i, Tryz.prog.globalNamed pow10Name = some i → Lib.TabIs Tryz.prog W pow10Name .u64 Lib.pow10Tab := by
  intro i hi
  have hp : (Rows.fnPegsRow.laid.all fun x => x.2.handleName?.isNone) = true := by kernel_rfl
  rw [MakeChecks.laidMetH_plain _ _ _ hp] at hL
  have h1 : laidMet Tryz.prog (("internal/strconv.uint64pow10", Rows.laid_internal_strconv_uint64pow10) :: [("unicode/utf8.acceptRanges", Rows.laid_unicode_utf8_acceptRanges), ("strconv.ErrRange", Rows.laid_strconv_ErrRange), ("strconv.ErrSyntax", Rows.laid_strconv_ErrSyntax), ("unicode/utf8.first", Rows.laid_unicode_utf8_first)]) W := (laidMet.tail (laidMet.tail hL))
  have e : (Rows.laid_internal_strconv_uint64pow10 : DataW Unit) = Lib.tabData .u64 Lib.pow10Tab := by kernel_rfl
  rw [e] at h1
  exact Lib.tabIs_of_head (t := 131) (e := 70) (n := 20) hi (by obtain rfl := Option.some.inj ((show Tryz.prog.globalNamed pow10Name = some 1 by kernel_rfl).symm.trans hi); kernel_rfl) (by kernel_rfl) (by kernel_rfl) (by kernel_rfl) (by kernel_rfl) h1
theorem errs (W : World) (hL : laidMetH Tryz.prog Rows.fnPegsRow.laid W) : ∀ n, errNames.contains n = true → ∀ i, Tryz.prog.globalNamed n = some i → ∃ u v, W.var? Tryz.prog n = some #[.iface u v] := by
  intro n hn i hi
  have hn : n = "strconv.ErrSyntax" ∨ n = "strconv.ErrRange" := by simpa [errNames] using hn
  have hp : (Rows.fnPegsRow.laid.all fun x => x.2.handleName?.isNone) = true := by kernel_rfl
  rw [MakeChecks.laidMetH_plain _ _ _ hp] at hL
  rcases hn with rfl | rfl
  · have h1 : laidMet Tryz.prog (("strconv.ErrSyntax", Rows.laid_strconv_ErrSyntax) :: [("unicode/utf8.first", Rows.laid_unicode_utf8_first)]) W := (laidMet.tail (laidMet.tail (laidMet.tail (laidMet.tail (laidMet.tail hL)))))
    exact laid_iface (ti := 94) h1 ⟨_, _, rfl⟩ hi (by obtain rfl := Option.some.inj ((show Tryz.prog.globalNamed "strconv.ErrSyntax" = some 2 by kernel_rfl).symm.trans hi); kernel_rfl) Tryz.underlying94
  · have h1 : laidMet Tryz.prog (("strconv.ErrRange", Rows.laid_strconv_ErrRange) :: [("strconv.ErrSyntax", Rows.laid_strconv_ErrSyntax), ("unicode/utf8.first", Rows.laid_unicode_utf8_first)]) W := (laidMet.tail (laidMet.tail (laidMet.tail (laidMet.tail hL))))
    exact laid_iface (ti := 94) h1 ⟨_, _, rfl⟩ hi (by obtain rfl := Option.some.inj ((show Tryz.prog.globalNamed "strconv.ErrRange" = some 3 by kernel_rfl).symm.trans hi); kernel_rfl) Tryz.underlying94
theorem contract (H : Type) (enc : TypeId × Value → H) (W : World) (base : Nat) (args : Array Value) (ds gs : List (DataW H)) (before : List MemPlace)
    (hval : ∀ (j : Nat) t v, Tryz.f3.params[j]? = some t → args[j]? = some v → Value.okWide Tryz.prog W .any base t v)
    (hW : DataW.Whole enc Tryz.prog Tryz.f3.params.toList Rows.fnPegsSpec.vars false W args.toList ds gs before) (hL : laidMetH Tryz.prog Rows.fnPegsRow.laid W) (hsh : W.ShapedOpen Tryz.prog) :
    Calls Tryz.prog 3 args W fun e W' => ∃ v, e = .returned v ∧ Rows.fnPegsSpec.post enc Tryz.prog Tryz.f3 false true false false W args v W' :=
  row_contract (φ := phi) (g := 1234) (n := 20) ok_laws_FnPegs rfl rfl (tb := 4) Tryz.underlying4 (by kernel_rfl) rfl law laid reads spec_eq W base args ds gs before hval hW (Glob.start hsh (tab W hL) (errs W hL))
theorem lifted (os : Os) (started : os.Started) (H : Type) (enc : TypeId × Value → H) :
    ReturnsInHanded {} Tryz.checked os 3 .any (fun w args => (Rows.fnPegsSpec.pre enc Tryz.prog Tryz.f3 Rows.fnPegsRow.domain false w args ∧ laidMetH Tryz.prog Rows.fnPegsRow.laid w) ∧ sizedMet enc Tryz.prog Tryz.f3 (OpenSpec.ofChange Rows.fnPegsSpec) false w args) (Rows.fnPegsSpec.post enc Tryz.prog Tryz.f3 false true false false) := by
  refine returnsInHanded_laid (C := Tryz.checked) (laid := Rows.fnPegsRow.laid) own started (by kernel_rfl) Tryz.func3
    (ChangeSpec.witness_shaped (enc := enc) (C := Tryz.checked) (os := os) (X := fun w _ => laidMetH Tryz.prog Rows.fnPegsRow.laid w) false (World.laidAll Tryz.prog os Rows.fnPegsRow.laid) #[.slice none 0 0, .slice none 0 0] 12 (World.laidAll_os _ _ _)
      (World.shaped_of_ZipB (by kernel_rfl) (by kernel_rfl)) (by kernel_rfl) (by kernel_rfl) (by kernel_rfl)
      (by rw [MakeChecks.laidMetH_plain _ _ _ (by kernel_rfl)]; exact laidMet_laidAll _ (by kernel_rfl) (by kernel_rfl))) ?_
  intro W base args ds gs before hval hW hL hsh
  exact contract H enc W base args ds gs before hval hW hL hsh
theorem over : Rows.fnPegsRow.holds Tryz.pinned (OpenSpec.ofChange Rows.fnPegsSpec) :=
  OpenClaim.holds_of_wide 3 Tryz.f3 rfl rfl rfl rfl rfl rfl rfl ⟨rfl, rfl, rfl, rfl, rfl⟩ rfl rfl rfl rfl rfl (by kernel_rfl) Tryz.func3 (by kernel_rfl)
    (of_decide_eq_true (by kernel_rfl)) (by unfold Func.isWrapper; first | (rw [if_pos (by decide +kernel)]; kernel_rfl) | (rw [if_neg (by decide +kernel)]; exact ⟨rfl, rfl⟩))
    (fun os started H enc _ => lifted os started H enc)
theorem card : Rows.FnPegsCardSaid :=
  Claim7.holds_tied_plain_at .later [] [.data, .data, .data, .data, .sentinel, .sentinel, .pinned] true (true, "c15f7d72a3335d2a284284b46563459c36406f828fb5cdc079660ec1c2ffc08e") true over (fun _ h => by cases h) (by kernel_rfl) (fun _ h => by cases h) fnPegs_row_tie rfl ⟨rfl, rfl⟩ (by kernel_rfl) rfl
    (fun f fn hf hfn => by
      obtain rfl : f = 3 := Option.some.inj ((show Tryz.prog.funcNamed "loop.example/g01061/laws.FnPegs" = some 3 by kernel_rfl).symm.trans hf) |>.symm
      obtain rfl : fn = Tryz.f3 := (Option.some.inj (Tryz.func3.symm.trans hfn)).symm
      exact ⟨by kernel_rfl, fun j t ht => by
        have hm : t ∈ Tryz.f3.params.toList := by simpa using Array.mem_of_getElem? ht
        have hall : (Tryz.f3.params.toList.all fun u => !Tryz.prog.wantsStandIn u) = true := by kernel_rfl
        exact (show Tryz.prog.wantsStandIn t = false by simpa using List.all_eq_true.1 hall t hm)⟩)
    (by kernel_rfl)
/-- The statement. -/
theorem proved : Rows.FnPegsCardSaid := card
end Go.Proofs.YtflhphejcnomaaaGreatDoor.fnPegs
