/- The law FnReports answers true for every input, whatever it is, and leaves its arguments as they were. Conditions: none. -/
import Derived.Test.YthhejkflhpcjaaaGreatDoorQFnReports
import Derived.Test.YthhejkflhpcjaaaGreatDoorRows
import Derived.Test.YthhejkflhpcjaaaGreatDoorL5
import Derived.Test.YthhejkflhpcjaaaGreatDoorL8
import Derived.Test.YthhejkflhpcjaaaGreatDoorShelf
import Derived.Test.YthhejkflhpcjaaaGreatDoorCards
import Derived.Test.YthhejkflhpcjaaaGreatDoorTie
import Derived.LaidMore
import Derived.Lay
import Derived.SevenTiedAt
import Derived.Stop.Joined
import Derived.WalkKit
import Derived.ProofKit
import Derived.OpenShut
import Derived.JoinedOf
import Derived.Handed
set_option linter.unusedVariables false
set_option maxRecDepth 100000
namespace Go.Proofs.YthhejkflhpcjaaaGreatDoor.fnReports
open Go.Ab Go.Ab.P
open Go.ChangeShapes Go.WideShapes Go.ChangeAt Go.RowKit
def phiL : List (Nat × Nat) := [(76,4),(441,16),(847,66),(463,37),(642,35),(558,36),(445,39),(559,38),(726,40),(553,17),(425,5),(22,97),(21,42),(24,67),(23,44),(25,68),(26,69),(30,41),(57,18),(864,43),(524,19),(27,46),(54,21),(518,48),(668,45),(251,20),(632,47),(630,50),(911,77),(631,49),(1024,60),(872,59),(1237,81),(1238,58),(566,27),(517,51),(219,22),(322,6),(988,52),(822,23),(423,7),(557,57),(806,53),(807,54),(633,24),(424,8),(809,55),(635,25),(296,9),(870,56),(564,26),(422,10),(824,28),(823,29),(421,11),(861,63),(520,30),(634,31),(420,12),(176,13),(825,34),(418,15),(678,32),(683,33),(419,14),(1251,3)]
def phi (n : Nat) : Nat := (phiL.lookup n).getD 1000000
theorem hm : Tryz.prog.follows .mixedOrders = true := by kernel_rfl
theorem ok_laws_b10Long : FOk Tryz.prog phi 76 laws_b10Long_c := fn_ok hm (D := laws_b10Long_D) DOk.nil (by kernel_rfl) _ _ _ _
theorem ok_spec_l00From : FOk Tryz.prog phi 441 spec_l00From_c := fn_ok hm (D := spec_l00From_D) DOk.nil (by kernel_rfl) _ _ _ _
theorem ok_spec_l00Src_next : FOk Tryz.prog phi 847 spec_l00Src_next_c := fn_ok hm (D := spec_l00Src_next_D) DOk.nil (by kernel_rfl) _ _ _ _
theorem ok_spec_l00Src_pick : FOk Tryz.prog phi 463 spec_l00Src_pick_c := fn_ok hm (D := spec_l00Src_pick_D) (DOk.cons ok_spec_l00Src_next DOk.nil) (by kernel_rfl) _ _ _ _
theorem ok_spec_l00Src_one : FOk Tryz.prog phi 642 spec_l00Src_one_c := fn_ok hm (D := spec_l00Src_one_D) (DOk.cons ok_spec_l00Src_pick DOk.nil) (by kernel_rfl) _ _ _ _
theorem ok_spec_l14DrawOne : FOk Tryz.prog phi 558 spec_l14DrawOne_c := fn_ok hm (D := spec_l14DrawOne_D) (DOk.cons ok_spec_l00Src_pick DOk.nil) (by kernel_rfl) _ _ _ _
theorem ok_spec_l00Src_among : FOk Tryz.prog phi 445 spec_l00Src_among_c := fn_ok hm (D := spec_l00Src_among_D) (DOk.cons ok_spec_l00Src_pick DOk.nil) (by kernel_rfl) _ _ _ _
theorem ok_spec_l14Bent : FOk Tryz.prog phi 559 spec_l14Bent_c := fn_ok hm (D := spec_l14Bent_D) (DOk.cons ok_spec_l00Src_among (DOk.cons ok_spec_l00Src_pick DOk.nil)) (by kernel_rfl) _ _ _ _
theorem ok_spec_l01Dec : FOk Tryz.prog phi 726 spec_l01Dec_c := fn_ok hm (D := spec_l01Dec_D) DOk.nil (by kernel_rfl) _ _ _ _
theorem ok_spec_l14Draw : FOk Tryz.prog phi 553 spec_l14Draw_c := fn_ok hm (D := spec_l14Draw_D) (DOk.cons ok_spec_l00Src_among (DOk.cons ok_spec_l00Src_pick (DOk.cons ok_spec_l14DrawOne (DOk.cons ok_spec_l14Bent (DOk.cons ok_spec_l00Src_one (DOk.cons ok_spec_l01Dec DOk.nil)))))) (by kernel_rfl) _ _ _ _
theorem ok_spec_DrawPotReport : FOk Tryz.prog phi 425 spec_DrawPotReport_c := fn_ok hm (D := spec_DrawPotReport_D) (DOk.cons ok_spec_l00From (DOk.cons ok_spec_l14Draw DOk.nil)) (by kernel_rfl) _ _ _ _
theorem ok_impl_isDigit : FOk Tryz.prog phi 22 impl_isDigit_c := fn_ok hm (D := impl_isDigit_D) DOk.nil (by kernel_rfl) _ _ _ _
theorem ok_impl_few : FOk Tryz.prog phi 21 impl_few_c := fn_ok hm (D := impl_few_D) DOk.nil (by kernel_rfl) _ _ _ _
theorem ok_impl_IsName : FOk Tryz.prog phi 24 impl_IsName_c := fn_ok hm (D := impl_IsName_D) (DOk.cons ok_impl_few (DOk.cons ok_impl_isDigit DOk.nil)) (by kernel_rfl) _ _ _ _
theorem ok_impl_within : FOk Tryz.prog phi 23 impl_within_c := fn_ok hm (D := impl_within_D) DOk.nil (by kernel_rfl) _ _ _ _
theorem ok_impl_isGrams : FOk Tryz.prog phi 25 impl_isGrams_c := fn_ok hm (D := impl_isGrams_D) (DOk.cons ok_impl_within DOk.nil) (by kernel_rfl) _ _ _ _
theorem ok_impl_isHeat : FOk Tryz.prog phi 26 impl_isHeat_c := fn_ok hm (D := impl_isHeat_D) (DOk.cons ok_impl_within DOk.nil) (by kernel_rfl) _ _ _ _
theorem ok_impl_Pot_valid : FOk Tryz.prog phi 30 impl_Pot_valid_c := fn_ok hm (D := impl_Pot_valid_D) (DOk.cons ok_impl_within (DOk.cons ok_impl_IsName (DOk.cons ok_impl_isGrams (DOk.cons ok_impl_isHeat DOk.nil)))) (by kernel_rfl) _ _ _ _
theorem ok_impl_ValidPots : FOk Tryz.prog phi 57 impl_ValidPots_c := fn_ok hm (D := impl_ValidPots_D) (DOk.cons ok_impl_few (DOk.cons ok_impl_Pot_valid DOk.nil)) (by kernel_rfl) _ _ _ _
theorem ok_strconv_FormatInt : FOk Tryz.prog phi 864 strconv_FormatInt_c := formatInt_ok Tryz.laysM173 ⟨0,by kernel_rfl⟩ (by kernel_rfl)
theorem ok_impl_Decimal : FOk Tryz.prog phi 524 impl_Decimal_c := fn_ok hm (D := impl_Decimal_D) (DOk.cons ok_strconv_FormatInt DOk.nil) (by kernel_rfl) _ _ _ _
theorem ok_impl_divRound : FOk Tryz.prog phi 27 impl_divRound_c := fn_ok hm (D := impl_divRound_D) DOk.nil (by kernel_rfl) _ _ _ _
theorem ok_impl_Pot_strength : FOk Tryz.prog phi 54 impl_Pot_strength_c := fn_ok hm (D := impl_Pot_strength_D) (DOk.cons ok_impl_divRound DOk.nil) (by kernel_rfl) _ _ _ _
theorem ok_strings_Repeat : FOk Tryz.prog phi 518 strings_Repeat_c := repeat_ok Tryz.lays105 Tryz.Builder_Extra_105 (by kernel_rfl)
theorem ok_impl_padded : FOk Tryz.prog phi 668 impl_padded_c := fn_ok hm (D := impl_padded_D) (DOk.cons ok_strings_Repeat (DOk.cons ok_impl_Decimal DOk.nil)) (by kernel_rfl) _ _ _ _
theorem ok_impl_FixedText : FOk Tryz.prog phi 251 impl_FixedText_c := fn_ok hm (D := impl_FixedText_D) (DOk.cons ok_impl_within (DOk.cons ok_impl_padded DOk.nil)) (by kernel_rfl) _ _ _ _
theorem ok_impl_areCells : FOk Tryz.prog phi 632 impl_areCells_c := fn_ok hm (D := impl_areCells_D) (DOk.cons ok_impl_few (DOk.cons ok_impl_within DOk.nil)) (by kernel_rfl) _ _ _ _
theorem ok_strings_Join : FOk Tryz.prog phi 630 strings_Join_c := join_ok Tryz.lays156 Tryz.Builder_Extra_156 (by kernel_rfl)
theorem ok_strings_trimRightByte : FOk Tryz.prog phi 911 strings_trimRightByte_c := fn_ok hm (D := strings_trimRightByte_D) DOk.nil (by kernel_rfl) _ _ _ _
theorem ok_strings_TrimRight : FOk Tryz.prog phi 631 strings_TrimRight_c := fn_ok hm (D := strings_TrimRight_D) (DOk.cons ok_strings_trimRightByte DOk.nil) (by kernel_rfl) _ _ _ _
theorem ok_impl_isLine : FOk Tryz.prog phi 1024 impl_isLine_c := fn_ok hm (D := impl_isLine_D) (DOk.cons ok_impl_few (DOk.cons ok_impl_within DOk.nil)) (by kernel_rfl) _ _ _ _
theorem ok_impl_ValidReport_1 : FOk Tryz.prog phi 872 impl_ValidReport_1_c := fn_ok hm (D := impl_ValidReport_1_D) (DOk.cons ok_impl_isLine DOk.nil) (by kernel_rfl) _ _ _ _
theorem ok_slices_IndexFunc___string_string__impl_ValidReport_1 : FOk Tryz.prog phi 1237 slices_IndexFunc___string_string__impl_ValidReport_1_c := fn_ok hm (D := slices_IndexFunc___string_string__impl_ValidReport_1_D) (DOk.cons ok_impl_ValidReport_1 DOk.nil) (by kernel_rfl) _ _ _ _
theorem ok_slices_ContainsFunc___string_string__impl_ValidReport_1 : FOk Tryz.prog phi 1238 slices_ContainsFunc___string_string__impl_ValidReport_1_c := fn_ok hm (D := slices_ContainsFunc___string_string__impl_ValidReport_1_D) (DOk.cons ok_impl_ValidReport_1 (DOk.cons ok_slices_IndexFunc___string_string__impl_ValidReport_1 DOk.nil)) (by kernel_rfl) _ _ _ _
theorem ok_impl_ValidReport : FOk Tryz.prog phi 566 impl_ValidReport_c := fn_ok hm (D := impl_ValidReport_D) (DOk.cons ok_impl_few (DOk.cons ok_impl_ValidReport_1 (DOk.cons ok_slices_ContainsFunc___string_string__impl_ValidReport_1 DOk.nil))) (by kernel_rfl) _ _ _ _
theorem ok_impl_report : FOk Tryz.prog phi 517 impl_report_c := fn_ok hm (D := impl_report_D) (DOk.cons ok_impl_ValidReport DOk.nil) (by kernel_rfl) _ _ _ _
theorem ok_impl_TableLines : FOk Tryz.prog phi 219 impl_TableLines_c := fn_ok hm (D := impl_TableLines_D) (DOk.cons ok_impl_report (DOk.cons ok_strings_Repeat (DOk.cons ok_strings_Join (DOk.cons ok_strings_TrimRight (DOk.cons ok_impl_areCells DOk.nil))))) (by kernel_rfl) _ _ _ _
theorem ok_impl_PotReport : FOk Tryz.prog phi 322 impl_PotReport_c := fn_ok hm (D := impl_PotReport_D) (DOk.cons ok_impl_Pot_strength (DOk.cons ok_impl_ValidPots (DOk.cons ok_impl_TableLines (DOk.cons ok_impl_FixedText (DOk.cons ok_impl_Decimal DOk.nil))))) (by kernel_rfl) _ _ _ _
theorem ok_spec_l30Line : FOk Tryz.prog phi 988 spec_l30Line_c := fn_ok hm (D := spec_l30Line_D) DOk.nil (by kernel_rfl) _ _ _ _
theorem ok_spec_l30Ok : FOk Tryz.prog phi 822 spec_l30Ok_c := fn_ok hm (D := spec_l30Ok_D) (DOk.cons ok_spec_l30Line DOk.nil) (by kernel_rfl) _ _ _ _
theorem ok_spec_ValidReport : FOk Tryz.prog phi 423 spec_ValidReport_c := fn_ok hm (D := spec_ValidReport_D) (DOk.cons ok_spec_l30Ok DOk.nil) (by kernel_rfl) _ _ _ _
theorem ok_spec_l00Src_text : FOk Tryz.prog phi 557 spec_l00Src_text_c := fn_ok hm (D := spec_l00Src_text_D) (DOk.cons ok_spec_l00Src_pick DOk.nil) (by kernel_rfl) _ _ _ _
theorem ok_spec_l20DrawOne : FOk Tryz.prog phi 806 spec_l20DrawOne_c := fn_ok hm (D := spec_l20DrawOne_D) (DOk.cons ok_spec_l00Src_pick (DOk.cons ok_spec_l00Src_text DOk.nil)) (by kernel_rfl) _ _ _ _
theorem ok_spec_l20Bent : FOk Tryz.prog phi 807 spec_l20Bent_c := fn_ok hm (D := spec_l20Bent_D) (DOk.cons ok_spec_l00Src_among (DOk.cons ok_spec_l00Src_pick DOk.nil)) (by kernel_rfl) _ _ _ _
theorem ok_spec_l20Draw : FOk Tryz.prog phi 633 spec_l20Draw_c := fn_ok hm (D := spec_l20Draw_D) (DOk.cons ok_spec_l00Src_among (DOk.cons ok_spec_l00Src_pick (DOk.cons ok_spec_l00Src_one (DOk.cons ok_spec_l20DrawOne (DOk.cons ok_spec_l20Bent DOk.nil))))) (by kernel_rfl) _ _ _ _
theorem ok_spec_DrawPaperReport : FOk Tryz.prog phi 424 spec_DrawPaperReport_c := fn_ok hm (D := spec_DrawPaperReport_D) (DOk.cons ok_spec_l00From (DOk.cons ok_spec_l20Draw DOk.nil)) (by kernel_rfl) _ _ _ _
theorem ok_impl_Paper_valid : FOk Tryz.prog phi 809 impl_Paper_valid_c := fn_ok hm (D := impl_Paper_valid_D) (DOk.cons ok_impl_within (DOk.cons ok_impl_IsName DOk.nil)) (by kernel_rfl) _ _ _ _
theorem ok_impl_ValidPapers : FOk Tryz.prog phi 635 impl_ValidPapers_c := fn_ok hm (D := impl_ValidPapers_D) (DOk.cons ok_impl_few (DOk.cons ok_impl_Paper_valid DOk.nil)) (by kernel_rfl) _ _ _ _
theorem ok_impl_PaperReport : FOk Tryz.prog phi 296 impl_PaperReport_c := fn_ok hm (D := impl_PaperReport_D) (DOk.cons ok_impl_TableLines (DOk.cons ok_impl_Decimal (DOk.cons ok_impl_ValidPapers DOk.nil))) (by kernel_rfl) _ _ _ _
theorem ok_spec_l30DrawWord : FOk Tryz.prog phi 870 spec_l30DrawWord_c := fn_ok hm (D := spec_l30DrawWord_D) (DOk.cons ok_spec_l00Src_text DOk.nil) (by kernel_rfl) _ _ _ _
theorem ok_spec_l30Draw : FOk Tryz.prog phi 564 spec_l30Draw_c := fn_ok hm (D := spec_l30Draw_D) (DOk.cons ok_spec_l00Src_among (DOk.cons ok_spec_l00Src_pick (DOk.cons ok_spec_l00Src_text (DOk.cons ok_spec_l30DrawWord DOk.nil)))) (by kernel_rfl) _ _ _ _
theorem ok_spec_DrawSortLines : FOk Tryz.prog phi 422 spec_DrawSortLines_c := fn_ok hm (D := spec_DrawSortLines_D) (DOk.cons ok_spec_l00From (DOk.cons ok_spec_l30Draw DOk.nil)) (by kernel_rfl) _ _ _ _
theorem ok_impl_clone_string_ : FOk Tryz.prog phi 824 impl_clone_string__c := fn_ok hm (D := impl_clone_string__D) DOk.nil (by kernel_rfl) _ _ _ _
theorem ok_slices_Sort___string_string_ : FOk Tryz.prog phi 823 slices_Sort___string_string__c := sortS_ok Tryz.lays190 (by kernel_rfl)
theorem ok_impl_SortLines : FOk Tryz.prog phi 421 impl_SortLines_c := fn_ok hm (D := impl_SortLines_D) (DOk.cons ok_impl_ValidReport (DOk.cons ok_slices_Sort___string_string_ (DOk.cons ok_impl_clone_string_ DOk.nil))) (by kernel_rfl) _ _ _ _
theorem ok_slices_Compact___string_string_ : FOk Tryz.prog phi 861 slices_Compact___string_string__c := compactS_ok Tryz.lays194 (by kernel_rfl)
theorem ok_impl_sortedSet : FOk Tryz.prog phi 520 impl_sortedSet_c := fn_ok hm (D := impl_sortedSet_D) (DOk.cons ok_slices_Sort___string_string_ (DOk.cons ok_slices_Compact___string_string_ DOk.nil)) (by kernel_rfl) _ _ _ _
theorem ok_slices_Index___string_string_ : FOk Tryz.prog phi 634 slices_Index___string_string__c := fn_ok hm (D := slices_Index___string_string__D) DOk.nil (by kernel_rfl) _ _ _ _
theorem ok_impl_CountLines : FOk Tryz.prog phi 420 impl_CountLines_c := fn_ok hm (D := impl_CountLines_D) (DOk.cons ok_impl_sortedSet (DOk.cons ok_impl_ValidReport (DOk.cons ok_slices_Index___string_string_ (DOk.cons ok_impl_clone_string_ DOk.nil)))) (by kernel_rfl) _ _ _ _
theorem ok_laws_b10Sum : FOk Tryz.prog phi 176 laws_b10Sum_c := fn_ok hm (D := laws_b10Sum_D) DOk.nil (by kernel_rfl) _ _ _ _
theorem ok_impl_endedLines : FOk Tryz.prog phi 825 impl_endedLines_c := fn_ok hm (D := impl_endedLines_D) DOk.nil (by kernel_rfl) _ _ _ _
theorem ok_impl_ReportText : FOk Tryz.prog phi 418 impl_ReportText_c := fn_ok hm (D := impl_ReportText_D) (DOk.cons ok_impl_ValidReport (DOk.cons ok_impl_endedLines DOk.nil)) (by kernel_rfl) _ _ _ _
theorem ok_strings_CutSuffix : FOk Tryz.prog phi 678 strings_CutSuffix_c := cutSuffix_ok Tryz.lays104 (by kernel_rfl)
theorem ok_strings_Split : FOk Tryz.prog phi 683 strings_Split_c := split_ok Tryz.laysM146 (of_decide_eq_true (by kernel_rfl)) (by kernel_rfl)
theorem ok_impl_ReadReport : FOk Tryz.prog phi 419 impl_ReadReport_c := fn_ok hm (D := impl_ReadReport_D) (DOk.cons ok_impl_ValidReport (DOk.cons ok_strings_CutSuffix (DOk.cons ok_strings_Split DOk.nil))) (by kernel_rfl) _ _ _ _
theorem ok_laws_FnReports : FOk Tryz.prog phi 1251 laws_FnReports_c := fn_ok hm (D := laws_FnReports_D) (DOk.cons ok_laws_b10Long (DOk.cons ok_laws_b10Sum (DOk.cons ok_impl_PaperReport (DOk.cons ok_impl_PotReport (DOk.cons ok_impl_ReportText (DOk.cons ok_impl_ReadReport (DOk.cons ok_impl_CountLines (DOk.cons ok_impl_SortLines (DOk.cons ok_spec_DrawSortLines (DOk.cons ok_spec_ValidReport (DOk.cons ok_spec_DrawPaperReport (DOk.cons ok_spec_DrawPotReport DOk.nil)))))))))))) (by kernel_rfl) _ _ _ _
theorem law : ∀ x,wfU laws_FnReports_c.ps x → ∃ y,laws_FnReports_c.f x = some y ∧ resA laws_FnReports_c y = ([A.bool true],[]) := fun x hx => ⟨true,(laws_FnReports_true x.1 x.2.1 hx.1 hx.2.1),rfl⟩
theorem own : ownKnob Tryz.prog.godebug = none := by kernel_rfl
theorem laid : laidOutB Tryz.prog = true := by kernel_rfl
theorem reads : ∀ t ∈ Tryz.f3.params.toList,Tryz.prog.readableRec t = true ∧ t < Tryz.prog.types.size := by
 have h : (Tryz.f3.params.toList.all fun t => Tryz.prog.readableRec t && decide (t < Tryz.prog.types.size)) = true := by kernel_rfl
 intro t ht
 have := List.all_eq_true.1 h t ht
 simpa only [Bool.and_eq_true,decide_eq_true_eq] using this
theorem spec_eq (H : Type) : ∀ (ds : List (DataW H)),ds.length = Tryz.f3.params.toList.length → Rows.fnReportsSpec.fn H ds = { results := [.lit (.bool true)],args := ds } := by
 intro ds hd
 have hd : ds.length = 2 := hd
 match ds,hd with
 | [d0,d1],_ => rfl
theorem tab (W : World) (hL : laidMetH Tryz.prog Rows.fnReportsRow.laid W) : ∀ i,Tryz.prog.globalNamed pow10Name = some i → Lib.TabIs Tryz.prog W pow10Name .u64 Lib.pow10Tab := by
 intro i hi
 have hp : (Rows.fnReportsRow.laid.all fun x => x.2.handleName?.isNone) = true := by kernel_rfl
 rw [MakeChecks.laidMetH_plain _ _ _ hp] at hL
 have h1 : laidMet Tryz.prog (("internal/strconv.uint64pow10",Rows.laid_internal_strconv_uint64pow10) :: [("unicode/utf8.acceptRanges",Rows.laid_unicode_utf8_acceptRanges),("unicode/utf8.first",Rows.laid_unicode_utf8_first)]) W := (laidMet.tail (laidMet.tail hL))
 have e : (Rows.laid_internal_strconv_uint64pow10 : DataW Unit) = Lib.tabData .u64 Lib.pow10Tab := by kernel_rfl
 rw [e] at h1
 exact Lib.tabIs_of_head (t := 148) (e := 65) (n := 20) hi (by obtain rfl := Option.some.inj ((show Tryz.prog.globalNamed pow10Name = some 0 by kernel_rfl).symm.trans hi); kernel_rfl) (by kernel_rfl) (by kernel_rfl) (by kernel_rfl) (by kernel_rfl) h1
theorem errs (W : World) (hL : laidMetH Tryz.prog Rows.fnReportsRow.laid W) : ∀ n,errNames.contains n = true → ∀ i,Tryz.prog.globalNamed n = some i → ∃ u v,W.var? Tryz.prog n = some #[.iface u v] := by
 intro n hn i hi
 have hn : n = "strconv.ErrSyntax" ∨ n = "strconv.ErrRange" := by simpa [errNames] using hn
 rcases hn with rfl | rfl
 ·have h : Tryz.prog.globalNamed "strconv.ErrSyntax" = none := by kernel_rfl
  rw [h] at hi; cases hi
 ·have h : Tryz.prog.globalNamed "strconv.ErrRange" = none := by kernel_rfl
  rw [h] at hi; cases hi
theorem contract (H : Type) (enc : TypeId × Value → H) (W : World) (base : Nat) (args : Array Value) (ds gs : List (DataW H)) (before : List MemPlace)
 (hval : ∀ (j : Nat) t v,Tryz.f3.params[j]? = some t → args[j]? = some v → Value.okWide Tryz.prog W .any base t v)
 (hW : DataW.Whole enc Tryz.prog Tryz.f3.params.toList Rows.fnReportsSpec.vars false W args.toList ds gs before) (hL : laidMetH Tryz.prog Rows.fnReportsRow.laid W) (hsh : W.ShapedOpen Tryz.prog) :
 Calls Tryz.prog 3 args W fun e W' => ∃ v,e = .returned v ∧ Rows.fnReportsSpec.post enc Tryz.prog Tryz.f3 false true false false W args v W' :=
 row_contract (φ := phi) (g := 1251) (n := 20) ok_laws_FnReports rfl rfl (tb := 4) Tryz.underlying4 (by kernel_rfl) rfl law laid reads spec_eq W base args ds gs before hval hW (Glob.start hsh (tab W hL) (errs W hL))
theorem lifted (os : Os) (started : os.Started) (H : Type) (enc : TypeId × Value → H) :
 ReturnsInHanded {} Tryz.checked os 3 .any (fun w args => (Rows.fnReportsSpec.pre enc Tryz.prog Tryz.f3 Rows.fnReportsRow.domain false w args ∧ laidMetH Tryz.prog Rows.fnReportsRow.laid w) ∧ sizedMet enc Tryz.prog Tryz.f3 (OpenSpec.ofChange Rows.fnReportsSpec) false w args) (Rows.fnReportsSpec.post enc Tryz.prog Tryz.f3 false true false false) := by
 refine returnsInHanded_laid (C := Tryz.checked) (laid := Rows.fnReportsRow.laid) own started (by kernel_rfl) Tryz.func3
  (ChangeSpec.witness_shaped (enc := enc) (C := Tryz.checked) (os := os) (X := fun w _ => laidMetH Tryz.prog Rows.fnReportsRow.laid w) false (World.laidAll Tryz.prog os Rows.fnReportsRow.laid) #[.slice none 0 0,.slice none 0 0] 12 (World.laidAll_os _ _ _)
    (World.shaped_of_ZipB (by kernel_rfl) (by kernel_rfl)) (by kernel_rfl) (by kernel_rfl) (by kernel_rfl)
    (by rw [MakeChecks.laidMetH_plain _ _ _ (by kernel_rfl)]; exact laidMet_laidAll _ (by kernel_rfl) (by kernel_rfl))) ?_
 intro W base args ds gs before hval hW hL hsh
 exact contract H enc W base args ds gs before hval hW hL hsh
theorem over : Rows.fnReportsRow.holds Tryz.pinned (OpenSpec.ofChange Rows.fnReportsSpec) :=
 OpenClaim.holds_of_wide 3 Tryz.f3 rfl rfl rfl rfl rfl rfl rfl ⟨rfl,rfl,rfl,rfl,rfl⟩ rfl rfl rfl rfl rfl (by kernel_rfl) Tryz.func3 (by kernel_rfl)
  (of_decide_eq_true (by kernel_rfl)) (by unfold Func.isWrapper; first | (rw [if_pos (by decide +kernel)]; kernel_rfl) | (rw [if_neg (by decide +kernel)]; exact ⟨rfl,rfl⟩))
  (fun os started H enc _ => lifted os started H enc)
theorem card : Rows.FnReportsCardSaid :=
 Claim7.holds_tied_plain_at .later [] [.data,.data,.data,.data,.pinned] true (true,"f498254d4c88727ee601515f4dab450e35363f034097bb3f145af9932e7f6e73") false over (fun _ h => by cases h) (by kernel_rfl) (fun _ h => by cases h) fnReports_row_tie rfl ⟨rfl,rfl⟩ (by kernel_rfl) rfl
  (fun f fn hf hfn => by
    obtain rfl : f = 3 := Option.some.inj ((show Tryz.prog.funcNamed "loop.example/g01061/laws.FnReports" = some 3 by kernel_rfl).symm.trans hf) |>.symm
    obtain rfl : fn = Tryz.f3 := (Option.some.inj (Tryz.func3.symm.trans hfn)).symm
    exact ⟨by kernel_rfl,fun j t ht => by
     have hm : t ∈ Tryz.f3.params.toList := by simpa using Array.mem_of_getElem? ht
     have hall : (Tryz.f3.params.toList.all fun u => !Tryz.prog.wantsStandIn u) = true := by kernel_rfl
     exact (show Tryz.prog.wantsStandIn t = false by simpa using List.all_eq_true.1 hall t hm)⟩)
  (by kernel_rfl)
theorem proved : Rows.FnReportsCardSaid := card
end Go.Proofs.YthhejkflhpcjaaaGreatDoor.fnReports
