/- The law FnExactPotReport answers true for every input, whatever it is, and leaves its arguments as they were. Conditions: none. -/
import Derived.Test.YtdejhkhdilcadaaDoorQFnExactPotReport
import Derived.Test.YtdejhkhdilcadaaDoorRows
import Derived.Test.YtdejhkhdilcadaaDoorL5
import Derived.Test.YtdejhkhdilcadaaDoorShelf
import Derived.Test.YtdejhkhdilcadaaDoorCards
import Derived.Test.YtdejhkhdilcadaaDoorTie
import Derived.LaidMore
import Derived.Lay
import Derived.SevenTiedAt
import Derived.Stop.Joined
import Derived.WalkKit
import Derived.ProofKit
import Derived.OpenShut
import Derived.JoinedOf
import Derived.Handed
set_option linter.unusedVariables false
set_option maxRecDepth 100000
namespace Go.Proofs.YtdejhkhdilcadaaDoor.fnExactPotReport
open Go.Ab Go.Ab.P
open Go.ChangeShapes Go.WideShapes Go.ChangeAt Go.RowKit
def phiL : List (Nat × Nat) := [(34, 31), (63, 14), (31, 35), (59, 16), (11, 79), (12, 80), (13, 58), (1, 60), (14, 75), (15, 76), (20, 50), (53, 32), (726, 22), (16, 53), (17, 52), (50, 34), (960, 51), (746, 33), (627, 24), (988, 61), (822, 41), (516, 23), (324, 15), (22, 81), (21, 43), (24, 62), (23, 55), (25, 77), (26, 78), (30, 54), (57, 36), (864, 44), (524, 27), (27, 57), (54, 38), (518, 46), (668, 56), (251, 37), (632, 45), (630, 48), (911, 70), (631, 47), (1024, 96), (872, 95), (1237, 107), (1238, 94), (566, 74), (517, 49), (219, 28), (322, 17), (137, 9), (58, 39), (60, 18), (40, 30), (323, 19), (139, 12), (136, 13), (1244, 4)]
def phi (n : Nat) : Nat := (phiL.lookup n).getD 1000000
theorem hm : Tryd.prog.follows .mixedOrders = true := by kernel_rfl
theorem ck_laws_szPot : chkFn Tryd.prog phi 34 laws_szPot_ir = true := by kernel_rfl
theorem ok_laws_szPot : FOk Tryd.prog phi 34 laws_szPot_c := fn_ok hm (D := laws_szPot_D) DOk.nil ck_laws_szPot _ _ _ _
theorem ck_laws_szPotS : chkFn Tryd.prog phi 63 laws_szPotS_ir = true := by kernel_rfl
theorem ok_laws_szPotS : FOk Tryd.prog phi 63 laws_szPotS_c := fn_ok hm (D := laws_szPotS_D) (DOk.cons ok_laws_szPot DOk.nil) ck_laws_szPotS _ _ _ _
theorem ck_laws_toPot : chkFn Tryd.prog phi 31 laws_toPot_ir = true := by kernel_rfl
theorem ok_laws_toPot : FOk Tryd.prog phi 31 laws_toPot_c := fn_ok hm (D := laws_toPot_D) DOk.nil ck_laws_toPot _ _ _ _
theorem ck_laws_toPotS : chkFn Tryd.prog phi 59 laws_toPotS_ir = true := by kernel_rfl
theorem ok_laws_toPotS : FOk Tryd.prog phi 59 laws_toPotS_c := fn_ok hm (D := laws_toPotS_D) (DOk.cons ok_laws_toPot DOk.nil) ck_laws_toPotS _ _ _ _
theorem ck_spec_l01Small : chkFn Tryd.prog phi 11 spec_l01Small_ir = true := by kernel_rfl
theorem ok_spec_l01Small : FOk Tryd.prog phi 11 spec_l01Small_c := fn_ok hm (D := spec_l01Small_D) DOk.nil ck_spec_l01Small _ _ _ _
theorem ck_spec_l01Digit : chkFn Tryd.prog phi 12 spec_l01Digit_ir = true := by kernel_rfl
theorem ok_spec_l01Digit : FOk Tryd.prog phi 12 spec_l01Digit_c := fn_ok hm (D := spec_l01Digit_D) DOk.nil ck_spec_l01Digit _ _ _ _
theorem ck_spec_l01Name : chkFn Tryd.prog phi 13 spec_l01Name_ir = true := by kernel_rfl
theorem ok_spec_l01Name : FOk Tryd.prog phi 13 spec_l01Name_c := fn_ok hm (D := spec_l01Name_D) (DOk.cons ok_spec_l01Small (DOk.cons ok_spec_l01Digit DOk.nil)) ck_spec_l01Name _ _ _ _
theorem ck_spec_l00In : chkFn Tryd.prog phi 1 spec_l00In_ir = true := by kernel_rfl
theorem ok_spec_l00In : FOk Tryd.prog phi 1 spec_l00In_c := fn_ok hm (D := spec_l00In_D) DOk.nil ck_spec_l00In _ _ _ _
theorem ck_spec_l14Grams : chkFn Tryd.prog phi 14 spec_l14Grams_ir = true := by kernel_rfl
theorem ok_spec_l14Grams : FOk Tryd.prog phi 14 spec_l14Grams_c := fn_ok hm (D := spec_l14Grams_D) (DOk.cons ok_spec_l00In DOk.nil) ck_spec_l14Grams _ _ _ _
theorem ck_spec_l14Heat : chkFn Tryd.prog phi 15 spec_l14Heat_ir = true := by kernel_rfl
theorem ok_spec_l14Heat : FOk Tryd.prog phi 15 spec_l14Heat_c := fn_ok hm (D := spec_l14Heat_D) (DOk.cons ok_spec_l00In DOk.nil) ck_spec_l14Heat _ _ _ _
theorem ck_spec_l14One : chkFn Tryd.prog phi 20 spec_l14One_ir = true := by kernel_rfl
theorem ok_spec_l14One : FOk Tryd.prog phi 20 spec_l14One_c := fn_ok hm (D := spec_l14One_D) (DOk.cons ok_spec_l00In (DOk.cons ok_spec_l01Name (DOk.cons ok_spec_l14Grams (DOk.cons ok_spec_l14Heat DOk.nil)))) ck_spec_l14One _ _ _ _
theorem ck_spec_l14Ok : chkFn Tryd.prog phi 53 spec_l14Ok_ir = true := by kernel_rfl
theorem ok_spec_l14Ok : FOk Tryd.prog phi 53 spec_l14Ok_c := fn_ok hm (D := spec_l14Ok_D) (DOk.cons ok_spec_l14One DOk.nil) ck_spec_l14Ok _ _ _ _
theorem ck_spec_l01Dec : chkFn Tryd.prog phi 726 spec_l01Dec_ir = true := by kernel_rfl
theorem ok_spec_l01Dec : FOk Tryd.prog phi 726 spec_l01Dec_c := fn_ok hm (D := spec_l01Dec_D) DOk.nil ck_spec_l01Dec _ _ _ _
theorem ck_spec_l01Div : chkFn Tryd.prog phi 16 spec_l01Div_ir = true := by kernel_rfl
theorem ok_spec_l01Div : FOk Tryd.prog phi 16 spec_l01Div_c := fn_ok hm (D := spec_l01Div_D) DOk.nil ck_spec_l01Div _ _ _ _
theorem ck_spec_l00Max : chkFn Tryd.prog phi 17 spec_l00Max_ir = true := by kernel_rfl
theorem ok_spec_l00Max : FOk Tryd.prog phi 17 spec_l00Max_c := fn_ok hm (D := spec_l00Max_D) DOk.nil ck_spec_l00Max _ _ _ _
theorem ck_spec_l14Strong : chkFn Tryd.prog phi 50 spec_l14Strong_ir = true := by kernel_rfl
theorem ok_spec_l14Strong : FOk Tryd.prog phi 50 spec_l14Strong_c := fn_ok hm (D := spec_l14Strong_D) (DOk.cons ok_spec_l01Div (DOk.cons ok_spec_l00Max DOk.nil)) ck_spec_l14Strong _ _ _ _
theorem ck_spec_l02Ten : chkFn Tryd.prog phi 960 spec_l02Ten_ir = true := by kernel_rfl
theorem ok_spec_l02Ten : FOk Tryd.prog phi 960 spec_l02Ten_c := fn_ok hm (D := spec_l02Ten_D) DOk.nil ck_spec_l02Ten _ _ _ _
theorem ck_spec_l02Fixed : chkFn Tryd.prog phi 746 spec_l02Fixed_ir = true := by kernel_rfl
theorem ok_spec_l02Fixed : FOk Tryd.prog phi 746 spec_l02Fixed_c := fn_ok hm (D := spec_l02Fixed_D) (DOk.cons ok_spec_l01Dec (DOk.cons ok_spec_l02Ten DOk.nil)) ck_spec_l02Fixed _ _ _ _
theorem ck_spec_l30Table : chkFn Tryd.prog phi 627 spec_l30Table_ir = true := by kernel_rfl
theorem ok_spec_l30Table : FOk Tryd.prog phi 627 spec_l30Table_c := fn_ok hm (D := spec_l30Table_D) DOk.nil ck_spec_l30Table _ _ _ _
theorem ck_spec_l30Line : chkFn Tryd.prog phi 988 spec_l30Line_ir = true := by kernel_rfl
theorem ok_spec_l30Line : FOk Tryd.prog phi 988 spec_l30Line_c := fn_ok hm (D := spec_l30Line_D) DOk.nil ck_spec_l30Line _ _ _ _
theorem ck_spec_l30Ok : chkFn Tryd.prog phi 822 spec_l30Ok_ir = true := by kernel_rfl
theorem ok_spec_l30Ok : FOk Tryd.prog phi 822 spec_l30Ok_c := fn_ok hm (D := spec_l30Ok_D) (DOk.cons ok_spec_l30Line DOk.nil) ck_spec_l30Ok _ _ _ _
theorem ck_spec_l30Done : chkFn Tryd.prog phi 516 spec_l30Done_ir = true := by kernel_rfl
theorem ok_spec_l30Done : FOk Tryd.prog phi 516 spec_l30Done_c := fn_ok hm (D := spec_l30Done_D) (DOk.cons ok_spec_l30Ok DOk.nil) ck_spec_l30Done _ _ _ _
theorem ck_spec_PotReport : chkFn Tryd.prog phi 324 spec_PotReport_ir = true := by kernel_rfl
theorem ok_spec_PotReport : FOk Tryd.prog phi 324 spec_PotReport_c := fn_ok hm (D := spec_PotReport_D) (DOk.cons ok_spec_l14Strong (DOk.cons ok_spec_l14Ok (DOk.cons ok_spec_l30Done (DOk.cons ok_spec_l30Table (DOk.cons ok_spec_l01Dec (DOk.cons ok_spec_l02Fixed DOk.nil)))))) ck_spec_PotReport _ _ _ _
theorem ck_impl_isDigit : chkFn Tryd.prog phi 22 impl_isDigit_ir = true := by kernel_rfl
theorem ok_impl_isDigit : FOk Tryd.prog phi 22 impl_isDigit_c := fn_ok hm (D := impl_isDigit_D) DOk.nil ck_impl_isDigit _ _ _ _
theorem ck_impl_few : chkFn Tryd.prog phi 21 impl_few_ir = true := by kernel_rfl
theorem ok_impl_few : FOk Tryd.prog phi 21 impl_few_c := fn_ok hm (D := impl_few_D) DOk.nil ck_impl_few _ _ _ _
theorem ck_impl_IsName : chkFn Tryd.prog phi 24 impl_IsName_ir = true := by kernel_rfl
theorem ok_impl_IsName : FOk Tryd.prog phi 24 impl_IsName_c := fn_ok hm (D := impl_IsName_D) (DOk.cons ok_impl_few (DOk.cons ok_impl_isDigit DOk.nil)) ck_impl_IsName _ _ _ _
theorem ck_impl_within : chkFn Tryd.prog phi 23 impl_within_ir = true := by kernel_rfl
theorem ok_impl_within : FOk Tryd.prog phi 23 impl_within_c := fn_ok hm (D := impl_within_D) DOk.nil ck_impl_within _ _ _ _
theorem ck_impl_isGrams : chkFn Tryd.prog phi 25 impl_isGrams_ir = true := by kernel_rfl
theorem ok_impl_isGrams : FOk Tryd.prog phi 25 impl_isGrams_c := fn_ok hm (D := impl_isGrams_D) (DOk.cons ok_impl_within DOk.nil) ck_impl_isGrams _ _ _ _
theorem ck_impl_isHeat : chkFn Tryd.prog phi 26 impl_isHeat_ir = true := by kernel_rfl
theorem ok_impl_isHeat : FOk Tryd.prog phi 26 impl_isHeat_c := fn_ok hm (D := impl_isHeat_D) (DOk.cons ok_impl_within DOk.nil) ck_impl_isHeat _ _ _ _
theorem ck_impl_Pot_valid : chkFn Tryd.prog phi 30 impl_Pot_valid_ir = true := by kernel_rfl
theorem ok_impl_Pot_valid : FOk Tryd.prog phi 30 impl_Pot_valid_c := fn_ok hm (D := impl_Pot_valid_D) (DOk.cons ok_impl_within (DOk.cons ok_impl_IsName (DOk.cons ok_impl_isGrams (DOk.cons ok_impl_isHeat DOk.nil)))) ck_impl_Pot_valid _ _ _ _
theorem ck_impl_ValidPots : chkFn Tryd.prog phi 57 impl_ValidPots_ir = true := by kernel_rfl
theorem ok_impl_ValidPots : FOk Tryd.prog phi 57 impl_ValidPots_c := fn_ok hm (D := impl_ValidPots_D) (DOk.cons ok_impl_few (DOk.cons ok_impl_Pot_valid DOk.nil)) ck_impl_ValidPots _ _ _ _
theorem ok_strconv_FormatInt : FOk Tryd.prog phi 864 strconv_FormatInt_c := formatInt_ok Tryd.laysM173 ⟨0, by kernel_rfl⟩ (by kernel_rfl)
theorem ck_impl_Decimal : chkFn Tryd.prog phi 524 impl_Decimal_ir = true := by kernel_rfl
theorem ok_impl_Decimal : FOk Tryd.prog phi 524 impl_Decimal_c := fn_ok hm (D := impl_Decimal_D) (DOk.cons ok_strconv_FormatInt DOk.nil) ck_impl_Decimal _ _ _ _
theorem ck_impl_divRound : chkFn Tryd.prog phi 27 impl_divRound_ir = true := by kernel_rfl
theorem ok_impl_divRound : FOk Tryd.prog phi 27 impl_divRound_c := fn_ok hm (D := impl_divRound_D) DOk.nil ck_impl_divRound _ _ _ _
theorem ck_impl_Pot_strength : chkFn Tryd.prog phi 54 impl_Pot_strength_ir = true := by kernel_rfl
theorem ok_impl_Pot_strength : FOk Tryd.prog phi 54 impl_Pot_strength_c := fn_ok hm (D := impl_Pot_strength_D) (DOk.cons ok_impl_divRound DOk.nil) ck_impl_Pot_strength _ _ _ _
theorem ok_strings_Repeat : FOk Tryd.prog phi 518 strings_Repeat_c := repeat_ok Tryd.lays105 Tryd.Builder_Extra_105 (by kernel_rfl)
theorem ck_impl_padded : chkFn Tryd.prog phi 668 impl_padded_ir = true := by kernel_rfl
theorem ok_impl_padded : FOk Tryd.prog phi 668 impl_padded_c := fn_ok hm (D := impl_padded_D) (DOk.cons ok_strings_Repeat (DOk.cons ok_impl_Decimal DOk.nil)) ck_impl_padded _ _ _ _
theorem ck_impl_FixedText : chkFn Tryd.prog phi 251 impl_FixedText_ir = true := by kernel_rfl
theorem ok_impl_FixedText : FOk Tryd.prog phi 251 impl_FixedText_c := fn_ok hm (D := impl_FixedText_D) (DOk.cons ok_impl_within (DOk.cons ok_impl_padded DOk.nil)) ck_impl_FixedText _ _ _ _
theorem ck_impl_areCells : chkFn Tryd.prog phi 632 impl_areCells_ir = true := by kernel_rfl
theorem ok_impl_areCells : FOk Tryd.prog phi 632 impl_areCells_c := fn_ok hm (D := impl_areCells_D) (DOk.cons ok_impl_few (DOk.cons ok_impl_within DOk.nil)) ck_impl_areCells _ _ _ _
theorem ok_strings_Join : FOk Tryd.prog phi 630 strings_Join_c := join_ok Tryd.lays156 Tryd.Builder_Extra_156 (by kernel_rfl)
theorem ck_strings_trimRightByte : chkFn Tryd.prog phi 911 strings_trimRightByte_ir = true := by kernel_rfl
theorem ok_strings_trimRightByte : FOk Tryd.prog phi 911 strings_trimRightByte_c := fn_ok hm (D := strings_trimRightByte_D) DOk.nil ck_strings_trimRightByte _ _ _ _
theorem ck_strings_TrimRight : chkFn Tryd.prog phi 631 strings_TrimRight_ir = true := by kernel_rfl
theorem ok_strings_TrimRight : FOk Tryd.prog phi 631 strings_TrimRight_c := fn_ok hm (D := strings_TrimRight_D) (DOk.cons ok_strings_trimRightByte DOk.nil) ck_strings_TrimRight _ _ _ _
theorem ck_impl_isLine : chkFn Tryd.prog phi 1024 impl_isLine_ir = true := by kernel_rfl
theorem ok_impl_isLine : FOk Tryd.prog phi 1024 impl_isLine_c := fn_ok hm (D := impl_isLine_D) (DOk.cons ok_impl_few (DOk.cons ok_impl_within DOk.nil)) ck_impl_isLine _ _ _ _
theorem ck_impl_ValidReport_1 : chkFn Tryd.prog phi 872 impl_ValidReport_1_ir = true := by kernel_rfl
theorem ok_impl_ValidReport_1 : FOk Tryd.prog phi 872 impl_ValidReport_1_c := fn_ok hm (D := impl_ValidReport_1_D) (DOk.cons ok_impl_isLine DOk.nil) ck_impl_ValidReport_1 _ _ _ _
theorem ck_slices_IndexFunc___string_string__impl_ValidReport_1 : chkFn Tryd.prog phi 1237 slices_IndexFunc___string_string__impl_ValidReport_1_ir = true := by kernel_rfl
theorem ok_slices_IndexFunc___string_string__impl_ValidReport_1 : FOk Tryd.prog phi 1237 slices_IndexFunc___string_string__impl_ValidReport_1_c := fn_ok hm (D := slices_IndexFunc___string_string__impl_ValidReport_1_D) (DOk.cons ok_impl_ValidReport_1 DOk.nil) ck_slices_IndexFunc___string_string__impl_ValidReport_1 _ _ _ _
theorem ck_slices_ContainsFunc___string_string__impl_ValidReport_1 : chkFn Tryd.prog phi 1238 slices_ContainsFunc___string_string__impl_ValidReport_1_ir = true := by kernel_rfl
theorem ok_slices_ContainsFunc___string_string__impl_ValidReport_1 : FOk Tryd.prog phi 1238 slices_ContainsFunc___string_string__impl_ValidReport_1_c := fn_ok hm (D := slices_ContainsFunc___string_string__impl_ValidReport_1_D) (DOk.cons ok_impl_ValidReport_1 (DOk.cons ok_slices_IndexFunc___string_string__impl_ValidReport_1 DOk.nil)) ck_slices_ContainsFunc___string_string__impl_ValidReport_1 _ _ _ _
theorem ck_impl_ValidReport : chkFn Tryd.prog phi 566 impl_ValidReport_ir = true := by kernel_rfl
theorem ok_impl_ValidReport : FOk Tryd.prog phi 566 impl_ValidReport_c := fn_ok hm (D := impl_ValidReport_D) (DOk.cons ok_impl_few (DOk.cons ok_impl_ValidReport_1 (DOk.cons ok_slices_ContainsFunc___string_string__impl_ValidReport_1 DOk.nil))) ck_impl_ValidReport _ _ _ _
theorem ck_impl_report : chkFn Tryd.prog phi 517 impl_report_ir = true := by kernel_rfl
theorem ok_impl_report : FOk Tryd.prog phi 517 impl_report_c := fn_ok hm (D := impl_report_D) (DOk.cons ok_impl_ValidReport DOk.nil) ck_impl_report _ _ _ _
theorem ck_impl_TableLines : chkFn Tryd.prog phi 219 impl_TableLines_ir = true := by kernel_rfl
theorem ok_impl_TableLines : FOk Tryd.prog phi 219 impl_TableLines_c := fn_ok hm (D := impl_TableLines_D) (DOk.cons ok_impl_report (DOk.cons ok_strings_Repeat (DOk.cons ok_strings_Join (DOk.cons ok_strings_TrimRight (DOk.cons ok_impl_areCells DOk.nil))))) ck_impl_TableLines _ _ _ _
theorem ck_impl_PotReport : chkFn Tryd.prog phi 322 impl_PotReport_ir = true := by kernel_rfl
theorem ok_impl_PotReport : FOk Tryd.prog phi 322 impl_PotReport_c := fn_ok hm (D := impl_PotReport_D) (DOk.cons ok_impl_Pot_strength (DOk.cons ok_impl_ValidPots (DOk.cons ok_impl_TableLines (DOk.cons ok_impl_FixedText (DOk.cons ok_impl_Decimal DOk.nil))))) ck_impl_PotReport _ _ _ _
theorem ck_laws_eqStringS : chkFn Tryd.prog phi 137 laws_eqStringS_ir = true := by kernel_rfl
theorem ok_laws_eqStringS : FOk Tryd.prog phi 137 laws_eqStringS_c := fn_ok hm (D := laws_eqStringS_D) DOk.nil ck_laws_eqStringS _ _ _ _
theorem ck_laws_eqPot : chkFn Tryd.prog phi 58 laws_eqPot_ir = true := by kernel_rfl
theorem ok_laws_eqPot : FOk Tryd.prog phi 58 laws_eqPot_c := fn_ok hm (D := laws_eqPot_D) DOk.nil ck_laws_eqPot _ _ _ _
theorem ck_laws_eqPotS : chkFn Tryd.prog phi 60 laws_eqPotS_ir = true := by kernel_rfl
theorem ok_laws_eqPotS : FOk Tryd.prog phi 60 laws_eqPotS_c := fn_ok hm (D := laws_eqPotS_D) (DOk.cons ok_laws_eqPot DOk.nil) ck_laws_eqPotS _ _ _ _
theorem ck_laws_markText : chkFn Tryd.prog phi 40 laws_markText_ir = true := by kernel_rfl
theorem ok_laws_markText : FOk Tryd.prog phi 40 laws_markText_c := fn_ok hm (D := laws_markText_D) DOk.nil ck_laws_markText _ _ _ _
theorem ck_laws_markPotS : chkFn Tryd.prog phi 323 laws_markPotS_ir = true := by kernel_rfl
theorem ok_laws_markPotS : FOk Tryd.prog phi 323 laws_markPotS_c := fn_ok hm (D := laws_markPotS_D) (DOk.cons ok_laws_markText DOk.nil) ck_laws_markPotS _ _ _ _
theorem ck_laws_markStringS : chkFn Tryd.prog phi 139 laws_markStringS_ir = true := by kernel_rfl
theorem ok_laws_markStringS : FOk Tryd.prog phi 139 laws_markStringS_c := fn_ok hm (D := laws_markStringS_D) (DOk.cons ok_laws_markText DOk.nil) ck_laws_markStringS _ _ _ _
theorem ck_laws_heldStringS : chkFn Tryd.prog phi 136 laws_heldStringS_ir = true := by kernel_rfl
theorem ok_laws_heldStringS : FOk Tryd.prog phi 136 laws_heldStringS_c := fn_ok hm (D := laws_heldStringS_D) (DOk.cons ok_laws_markText DOk.nil) ck_laws_heldStringS _ _ _ _
theorem ck_laws_FnExactPotReport : chkFn Tryd.prog phi 1244 laws_FnExactPotReport_ir = true := by kernel_rfl
theorem ok_laws_FnExactPotReport : FOk Tryd.prog phi 1244 laws_FnExactPotReport_c := fn_ok hm (D := laws_FnExactPotReport_D) (DOk.cons ok_laws_toPotS (DOk.cons ok_laws_eqPotS (DOk.cons ok_laws_szPotS (DOk.cons ok_laws_heldStringS (DOk.cons ok_laws_eqStringS (DOk.cons ok_laws_markStringS (DOk.cons ok_impl_PotReport (DOk.cons ok_laws_markPotS (DOk.cons ok_spec_PotReport DOk.nil))))))))) ck_laws_FnExactPotReport _ _ _ _
theorem law : ∀ x, wfU laws_FnExactPotReport_c.ps x → ∃ y, laws_FnExactPotReport_c.f x = some y ∧ resA laws_FnExactPotReport_c y = ([A.bool true], []) := fun x hx => ⟨true, (laws_FnExactPotReport_true x.1 hx.1), rfl⟩
theorem own : ownKnob Tryd.prog.godebug = none := by kernel_rfl
theorem laid : laidOutB Tryd.prog = true := by kernel_rfl
theorem reads : ∀ t ∈ Tryd.f4.params.toList, Tryd.prog.readableRec t = true ∧ t < Tryd.prog.types.size := by
  have h : (Tryd.f4.params.toList.all fun t => Tryd.prog.readableRec t && decide (t < Tryd.prog.types.size)) = true := by kernel_rfl
  intro t ht
  have := List.all_eq_true.1 h t ht
  simpa only [Bool.and_eq_true, decide_eq_true_eq] using this
theorem spec_eq (H : Type) : ∀ (ds : List (DataW H)), ds.length = Tryd.f4.params.toList.length → Rows.fnExactPotReportSpec.fn H ds = { results := [.lit (.bool true)], args := ds } := by
  intro ds hd
  have hd : ds.length = 1 := hd
  match ds, hd with
  | [d0], _ => rfl
theorem tab (W : World) (hL : laidMetH Tryd.prog Rows.fnExactPotReportRow.laid W) : ∀ i, Tryd.prog.globalNamed pow10Name = some i → Lib.TabIs Tryd.prog W pow10Name .u64 Lib.pow10Tab := by
  intro i hi
  have hp : (Rows.fnExactPotReportRow.laid.all fun x => x.2.handleName?.isNone) = true := by kernel_rfl
  rw [MakeChecks.laidMetH_plain _ _ _ hp] at hL
  have h1 : laidMet Tryd.prog (("internal/strconv.uint64pow10", Rows.laid_internal_strconv_uint64pow10) :: [("unicode/utf8.acceptRanges", Rows.laid_unicode_utf8_acceptRanges), ("unicode/utf8.first", Rows.laid_unicode_utf8_first)]) W := (laidMet.tail (laidMet.tail hL))
  have e : (Rows.laid_internal_strconv_uint64pow10 : DataW Unit) = Lib.tabData .u64 Lib.pow10Tab := by kernel_rfl
  rw [e] at h1
  exact Lib.tabIs_of_head (t := 124) (e := 107) (n := 20) hi (by obtain rfl := Option.some.inj ((show Tryd.prog.globalNamed pow10Name = some 0 by kernel_rfl).symm.trans hi); kernel_rfl) (by kernel_rfl) (by kernel_rfl) (by kernel_rfl) (by kernel_rfl) h1
theorem errs (W : World) (hL : laidMetH Tryd.prog Rows.fnExactPotReportRow.laid W) : ∀ n, errNames.contains n = true → ∀ i, Tryd.prog.globalNamed n = some i → ∃ u v, W.var? Tryd.prog n = some #[.iface u v] := by
  intro n hn i hi
  have hn : n = "strconv.ErrSyntax" ∨ n = "strconv.ErrRange" := by simpa [errNames] using hn
  rcases hn with rfl | rfl
  · have h : Tryd.prog.globalNamed "strconv.ErrSyntax" = none := by kernel_rfl
    rw [h] at hi; cases hi
  · have h : Tryd.prog.globalNamed "strconv.ErrRange" = none := by kernel_rfl
    rw [h] at hi; cases hi
theorem contract (H : Type) (enc : TypeId × Value → H) (W : World) (base : Nat) (args : Array Value) (ds gs : List (DataW H)) (before : List MemPlace)
    (hval : ∀ (j : Nat) t v, Tryd.f4.params[j]? = some t → args[j]? = some v → Value.okWide Tryd.prog W .any base t v)
    (hW : DataW.Whole enc Tryd.prog Tryd.f4.params.toList Rows.fnExactPotReportSpec.vars false W args.toList ds gs before) (hL : laidMetH Tryd.prog Rows.fnExactPotReportRow.laid W) (hsh : W.ShapedOpen Tryd.prog) :
    Calls Tryd.prog 4 args W fun e W' => ∃ v, e = .returned v ∧ Rows.fnExactPotReportSpec.post enc Tryd.prog Tryd.f4 false true false false W args v W' :=
  row_contract (φ := phi) (g := 1244) (n := 20) ok_laws_FnExactPotReport rfl rfl (tb := 4) Tryd.underlying4 (by kernel_rfl) rfl law laid reads spec_eq W base args ds gs before hval hW (Glob.start hsh (tab W hL) (errs W hL))
theorem lifted (os : Os) (started : os.Started) (H : Type) (enc : TypeId × Value → H) :
    ReturnsInHanded {} Tryd.checked os 4 .any (fun w args => (Rows.fnExactPotReportSpec.pre enc Tryd.prog Tryd.f4 Rows.fnExactPotReportRow.domain false w args ∧ laidMetH Tryd.prog Rows.fnExactPotReportRow.laid w) ∧ sizedMet enc Tryd.prog Tryd.f4 (OpenSpec.ofChange Rows.fnExactPotReportSpec) false w args) (Rows.fnExactPotReportSpec.post enc Tryd.prog Tryd.f4 false true false false) := by
  refine returnsInHanded_laid (C := Tryd.checked) (laid := Rows.fnExactPotReportRow.laid) own started (by kernel_rfl) Tryd.func4
    (ChangeSpec.witness_shaped (enc := enc) (C := Tryd.checked) (os := os) (X := fun w _ => laidMetH Tryd.prog Rows.fnExactPotReportRow.laid w) false (World.laidAll Tryd.prog os Rows.fnExactPotReportRow.laid) #[.slice none 0 0] 12 (World.laidAll_os _ _ _)
      (World.shaped_of_ZipB (by kernel_rfl) (by kernel_rfl)) (by kernel_rfl) (by kernel_rfl) (by kernel_rfl)
      (by rw [MakeChecks.laidMetH_plain _ _ _ (by kernel_rfl)]; exact laidMet_laidAll _ (by kernel_rfl) (by kernel_rfl))) ?_
  intro W base args ds gs before hval hW hL hsh
  exact contract H enc W base args ds gs before hval hW hL hsh
theorem over : Rows.fnExactPotReportRow.holds Tryd.pinned (OpenSpec.ofChange Rows.fnExactPotReportSpec) :=
  OpenClaim.holds_of_wide 4 Tryd.f4 rfl rfl rfl rfl rfl rfl rfl ⟨rfl, rfl, rfl, rfl, rfl⟩ rfl rfl rfl rfl rfl (by kernel_rfl) Tryd.func4 (by kernel_rfl)
    (of_decide_eq_true (by kernel_rfl)) (by unfold Func.isWrapper; first | (rw [if_pos (by decide +kernel)]; kernel_rfl) | (rw [if_neg (by decide +kernel)]; exact ⟨rfl, rfl⟩))
    (fun os started H enc _ => lifted os started H enc)
theorem card : Rows.FnExactPotReportCardSaid :=
  Claim7.holds_tied_plain_at .later [] [.data, .data, .data, .data, .pinned] true (true, "f46fedbefc2caf6d866cce9cedbf950179ef08c4b934b27281ea47af44fdfe9c") false over (fun _ h => by cases h) (by kernel_rfl) (fun _ h => by cases h) fnExactPotReport_row_tie rfl ⟨rfl, rfl⟩ (by kernel_rfl) rfl
    (fun f fn hf hfn => by
      obtain rfl : f = 4 := Option.some.inj ((show Tryd.prog.funcNamed "loop.example/g01061/laws.FnExactPotReport" = some 4 by kernel_rfl).symm.trans hf) |>.symm
      obtain rfl : fn = Tryd.f4 := (Option.some.inj (Tryd.func4.symm.trans hfn)).symm
      exact ⟨by kernel_rfl, fun j t ht => by
        have hm : t ∈ Tryd.f4.params.toList := by simpa using Array.mem_of_getElem? ht
        have hall : (Tryd.f4.params.toList.all fun u => !Tryd.prog.wantsStandIn u) = true := by kernel_rfl
        exact (show Tryd.prog.wantsStandIn t = false by simpa using List.all_eq_true.1 hall t hm)⟩)
    (by kernel_rfl)
/-- The statement. -/
theorem proved : Rows.FnExactPotReportCardSaid := card
end Go.Proofs.YtdejhkhdilcadaaDoor.fnExactPotReport
