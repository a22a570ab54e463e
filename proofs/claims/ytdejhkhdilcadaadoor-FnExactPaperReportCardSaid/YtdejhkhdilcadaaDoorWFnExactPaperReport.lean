/- The law FnExactPaperReport answers true for every input, whatever it is, and leaves its arguments as they were. Conditions: none. -/
import Derived.Test.YtdejhkhdilcadaaDoorQFnExactPaperReport
import Derived.Test.YtdejhkhdilcadaaDoorRows
import Derived.Test.YtdejhkhdilcadaaDoorL5
import Derived.Test.YtdejhkhdilcadaaDoorShelf
import Derived.Test.YtdejhkhdilcadaaDoorCards
import Derived.Test.YtdejhkhdilcadaaDoorTie
import Derived.LaidMore
import Derived.Lay
import Derived.SevenTiedAt
import Derived.Stop.Joined
import Derived.WalkKit
import Derived.ProofKit
import Derived.OpenShut
import Derived.JoinedOf
import Derived.Handed
set_option linter.unusedVariables false
set_option maxRecDepth 100000
namespace Go.Proofs.YtdejhkhdilcadaaDoor.fnExactPaperReport
open Go.Ab Go.Ab.P
open Go.ChangeShapes Go.WideShapes Go.ChangeAt Go.RowKit
def phiL : List (Nat × Nat) := [(725, 20), (300, 5), (727, 25), (295, 7), (11, 79), (12, 80), (13, 58), (1, 60), (645, 59), (912, 40), (640, 21), (726, 22), (627, 24), (988, 61), (822, 41), (516, 23), (299, 6), (22, 81), (21, 43), (24, 62), (23, 55), (809, 42), (635, 26), (864, 44), (524, 27), (632, 45), (518, 46), (630, 48), (911, 70), (631, 47), (1024, 96), (872, 95), (1237, 107), (1238, 94), (566, 74), (517, 49), (219, 28), (296, 8), (137, 9), (728, 29), (298, 10), (40, 30), (297, 11), (139, 12), (136, 13), (1243, 3)]
def phi (n : Nat) : Nat := (phiL.lookup n).getD 1000000
theorem hm : Tryd.prog.follows .mixedOrders = true := by kernel_rfl
theorem ck_laws_szPaper : chkFn Tryd.prog phi 725 laws_szPaper_ir = true := by kernel_rfl
theorem ok_laws_szPaper : FOk Tryd.prog phi 725 laws_szPaper_c := fn_ok hm (D := laws_szPaper_D) DOk.nil ck_laws_szPaper _ _ _ _
theorem ck_laws_szPaperS : chkFn Tryd.prog phi 300 laws_szPaperS_ir = true := by kernel_rfl
theorem ok_laws_szPaperS : FOk Tryd.prog phi 300 laws_szPaperS_c := fn_ok hm (D := laws_szPaperS_D) (DOk.cons ok_laws_szPaper DOk.nil) ck_laws_szPaperS _ _ _ _
theorem ck_laws_toPaper : chkFn Tryd.prog phi 727 laws_toPaper_ir = true := by kernel_rfl
theorem ok_laws_toPaper : FOk Tryd.prog phi 727 laws_toPaper_c := fn_ok hm (D := laws_toPaper_D) DOk.nil ck_laws_toPaper _ _ _ _
theorem ck_laws_toPaperS : chkFn Tryd.prog phi 295 laws_toPaperS_ir = true := by kernel_rfl
theorem ok_laws_toPaperS : FOk Tryd.prog phi 295 laws_toPaperS_c := fn_ok hm (D := laws_toPaperS_D) (DOk.cons ok_laws_toPaper DOk.nil) ck_laws_toPaperS _ _ _ _
theorem ck_spec_l01Small : chkFn Tryd.prog phi 11 spec_l01Small_ir = true := by kernel_rfl
theorem ok_spec_l01Small : FOk Tryd.prog phi 11 spec_l01Small_c := fn_ok hm (D := spec_l01Small_D) DOk.nil ck_spec_l01Small _ _ _ _
theorem ck_spec_l01Digit : chkFn Tryd.prog phi 12 spec_l01Digit_ir = true := by kernel_rfl
theorem ok_spec_l01Digit : FOk Tryd.prog phi 12 spec_l01Digit_c := fn_ok hm (D := spec_l01Digit_D) DOk.nil ck_spec_l01Digit _ _ _ _
theorem ck_spec_l01Name : chkFn Tryd.prog phi 13 spec_l01Name_ir = true := by kernel_rfl
theorem ok_spec_l01Name : FOk Tryd.prog phi 13 spec_l01Name_c := fn_ok hm (D := spec_l01Name_D) (DOk.cons ok_spec_l01Small (DOk.cons ok_spec_l01Digit DOk.nil)) ck_spec_l01Name _ _ _ _
theorem ck_spec_l00In : chkFn Tryd.prog phi 1 spec_l00In_ir = true := by kernel_rfl
theorem ok_spec_l00In : FOk Tryd.prog phi 1 spec_l00In_c := fn_ok hm (D := spec_l00In_D) DOk.nil ck_spec_l00In _ _ _ _
theorem ck_spec_l20Year : chkFn Tryd.prog phi 645 spec_l20Year_ir = true := by kernel_rfl
theorem ok_spec_l20Year : FOk Tryd.prog phi 645 spec_l20Year_c := fn_ok hm (D := spec_l20Year_D) (DOk.cons ok_spec_l00In DOk.nil) ck_spec_l20Year _ _ _ _
theorem ck_spec_l20One : chkFn Tryd.prog phi 912 spec_l20One_ir = true := by kernel_rfl
theorem ok_spec_l20One : FOk Tryd.prog phi 912 spec_l20One_c := fn_ok hm (D := spec_l20One_D) (DOk.cons ok_spec_l00In (DOk.cons ok_spec_l01Name (DOk.cons ok_spec_l20Year DOk.nil))) ck_spec_l20One _ _ _ _
theorem ck_spec_l20Ok : chkFn Tryd.prog phi 640 spec_l20Ok_ir = true := by kernel_rfl
theorem ok_spec_l20Ok : FOk Tryd.prog phi 640 spec_l20Ok_c := fn_ok hm (D := spec_l20Ok_D) (DOk.cons ok_spec_l20One DOk.nil) ck_spec_l20Ok _ _ _ _
theorem ck_spec_l01Dec : chkFn Tryd.prog phi 726 spec_l01Dec_ir = true := by kernel_rfl
theorem ok_spec_l01Dec : FOk Tryd.prog phi 726 spec_l01Dec_c := fn_ok hm (D := spec_l01Dec_D) DOk.nil ck_spec_l01Dec _ _ _ _
theorem ck_spec_l30Table : chkFn Tryd.prog phi 627 spec_l30Table_ir = true := by kernel_rfl
theorem ok_spec_l30Table : FOk Tryd.prog phi 627 spec_l30Table_c := fn_ok hm (D := spec_l30Table_D) DOk.nil ck_spec_l30Table _ _ _ _
theorem ck_spec_l30Line : chkFn Tryd.prog phi 988 spec_l30Line_ir = true := by kernel_rfl
theorem ok_spec_l30Line : FOk Tryd.prog phi 988 spec_l30Line_c := fn_ok hm (D := spec_l30Line_D) DOk.nil ck_spec_l30Line _ _ _ _
theorem ck_spec_l30Ok : chkFn Tryd.prog phi 822 spec_l30Ok_ir = true := by kernel_rfl
theorem ok_spec_l30Ok : FOk Tryd.prog phi 822 spec_l30Ok_c := fn_ok hm (D := spec_l30Ok_D) (DOk.cons ok_spec_l30Line DOk.nil) ck_spec_l30Ok _ _ _ _
theorem ck_spec_l30Done : chkFn Tryd.prog phi 516 spec_l30Done_ir = true := by kernel_rfl
theorem ok_spec_l30Done : FOk Tryd.prog phi 516 spec_l30Done_c := fn_ok hm (D := spec_l30Done_D) (DOk.cons ok_spec_l30Ok DOk.nil) ck_spec_l30Done _ _ _ _
theorem ck_spec_PaperReport : chkFn Tryd.prog phi 299 spec_PaperReport_ir = true := by kernel_rfl
theorem ok_spec_PaperReport : FOk Tryd.prog phi 299 spec_PaperReport_c := fn_ok hm (D := spec_PaperReport_D) (DOk.cons ok_spec_l30Done (DOk.cons ok_spec_l30Table (DOk.cons ok_spec_l20Ok (DOk.cons ok_spec_l01Dec DOk.nil)))) ck_spec_PaperReport _ _ _ _
theorem ck_impl_isDigit : chkFn Tryd.prog phi 22 impl_isDigit_ir = true := by kernel_rfl
theorem ok_impl_isDigit : FOk Tryd.prog phi 22 impl_isDigit_c := fn_ok hm (D := impl_isDigit_D) DOk.nil ck_impl_isDigit _ _ _ _
theorem ck_impl_few : chkFn Tryd.prog phi 21 impl_few_ir = true := by kernel_rfl
theorem ok_impl_few : FOk Tryd.prog phi 21 impl_few_c := fn_ok hm (D := impl_few_D) DOk.nil ck_impl_few _ _ _ _
theorem ck_impl_IsName : chkFn Tryd.prog phi 24 impl_IsName_ir = true := by kernel_rfl
theorem ok_impl_IsName : FOk Tryd.prog phi 24 impl_IsName_c := fn_ok hm (D := impl_IsName_D) (DOk.cons ok_impl_few (DOk.cons ok_impl_isDigit DOk.nil)) ck_impl_IsName _ _ _ _
theorem ck_impl_within : chkFn Tryd.prog phi 23 impl_within_ir = true := by kernel_rfl
theorem ok_impl_within : FOk Tryd.prog phi 23 impl_within_c := fn_ok hm (D := impl_within_D) DOk.nil ck_impl_within _ _ _ _
theorem ck_impl_Paper_valid : chkFn Tryd.prog phi 809 impl_Paper_valid_ir = true := by kernel_rfl
theorem ok_impl_Paper_valid : FOk Tryd.prog phi 809 impl_Paper_valid_c := fn_ok hm (D := impl_Paper_valid_D) (DOk.cons ok_impl_within (DOk.cons ok_impl_IsName DOk.nil)) ck_impl_Paper_valid _ _ _ _
theorem ck_impl_ValidPapers : chkFn Tryd.prog phi 635 impl_ValidPapers_ir = true := by kernel_rfl
theorem ok_impl_ValidPapers : FOk Tryd.prog phi 635 impl_ValidPapers_c := fn_ok hm (D := impl_ValidPapers_D) (DOk.cons ok_impl_few (DOk.cons ok_impl_Paper_valid DOk.nil)) ck_impl_ValidPapers _ _ _ _
theorem ok_strconv_FormatInt : FOk Tryd.prog phi 864 strconv_FormatInt_c := formatInt_ok Tryd.laysM173 ⟨0, by kernel_rfl⟩ (by kernel_rfl)
theorem ck_impl_Decimal : chkFn Tryd.prog phi 524 impl_Decimal_ir = true := by kernel_rfl
theorem ok_impl_Decimal : FOk Tryd.prog phi 524 impl_Decimal_c := fn_ok hm (D := impl_Decimal_D) (DOk.cons ok_strconv_FormatInt DOk.nil) ck_impl_Decimal _ _ _ _
theorem ck_impl_areCells : chkFn Tryd.prog phi 632 impl_areCells_ir = true := by kernel_rfl
theorem ok_impl_areCells : FOk Tryd.prog phi 632 impl_areCells_c := fn_ok hm (D := impl_areCells_D) (DOk.cons ok_impl_few (DOk.cons ok_impl_within DOk.nil)) ck_impl_areCells _ _ _ _
theorem ok_strings_Repeat : FOk Tryd.prog phi 518 strings_Repeat_c := repeat_ok Tryd.lays105 Tryd.Builder_Extra_105 (by kernel_rfl)
theorem ok_strings_Join : FOk Tryd.prog phi 630 strings_Join_c := join_ok Tryd.lays156 Tryd.Builder_Extra_156 (by kernel_rfl)
theorem ck_strings_trimRightByte : chkFn Tryd.prog phi 911 strings_trimRightByte_ir = true := by kernel_rfl
theorem ok_strings_trimRightByte : FOk Tryd.prog phi 911 strings_trimRightByte_c := fn_ok hm (D := strings_trimRightByte_D) DOk.nil ck_strings_trimRightByte _ _ _ _
theorem ck_strings_TrimRight : chkFn Tryd.prog phi 631 strings_TrimRight_ir = true := by kernel_rfl
theorem ok_strings_TrimRight : FOk Tryd.prog phi 631 strings_TrimRight_c := fn_ok hm (D := strings_TrimRight_D) (DOk.cons ok_strings_trimRightByte DOk.nil) ck_strings_TrimRight _ _ _ _
theorem ck_impl_isLine : chkFn Tryd.prog phi 1024 impl_isLine_ir = true := by kernel_rfl
theorem ok_impl_isLine : FOk Tryd.prog phi 1024 impl_isLine_c := fn_ok hm (D := impl_isLine_D) (DOk.cons ok_impl_few (DOk.cons ok_impl_within DOk.nil)) ck_impl_isLine _ _ _ _
theorem ck_impl_ValidReport_1 : chkFn Tryd.prog phi 872 impl_ValidReport_1_ir = true := by kernel_rfl
theorem ok_impl_ValidReport_1 : FOk Tryd.prog phi 872 impl_ValidReport_1_c := fn_ok hm (D := impl_ValidReport_1_D) (DOk.cons ok_impl_isLine DOk.nil) ck_impl_ValidReport_1 _ _ _ _
theorem ck_slices_IndexFunc___string_string__impl_ValidReport_1 : chkFn Tryd.prog phi 1237 slices_IndexFunc___string_string__impl_ValidReport_1_ir = true := by kernel_rfl
theorem ok_slices_IndexFunc___string_string__impl_ValidReport_1 : FOk Tryd.prog phi 1237 slices_IndexFunc___string_string__impl_ValidReport_1_c := fn_ok hm (D := slices_IndexFunc___string_string__impl_ValidReport_1_D) (DOk.cons ok_impl_ValidReport_1 DOk.nil) ck_slices_IndexFunc___string_string__impl_ValidReport_1 _ _ _ _
theorem ck_slices_ContainsFunc___string_string__impl_ValidReport_1 : chkFn Tryd.prog phi 1238 slices_ContainsFunc___string_string__impl_ValidReport_1_ir = true := by kernel_rfl
theorem ok_slices_ContainsFunc___string_string__impl_ValidReport_1 : FOk Tryd.prog phi 1238 slices_ContainsFunc___string_string__impl_ValidReport_1_c := fn_ok hm (D := slices_ContainsFunc___string_string__impl_ValidReport_1_D) (DOk.cons ok_impl_ValidReport_1 (DOk.cons ok_slices_IndexFunc___string_string__impl_ValidReport_1 DOk.nil)) ck_slices_ContainsFunc___string_string__impl_ValidReport_1 _ _ _ _
theorem ck_impl_ValidReport : chkFn Tryd.prog phi 566 impl_ValidReport_ir = true := by kernel_rfl
theorem ok_impl_ValidReport : FOk Tryd.prog phi 566 impl_ValidReport_c := fn_ok hm (D := impl_ValidReport_D) (DOk.cons ok_impl_few (DOk.cons ok_impl_ValidReport_1 (DOk.cons ok_slices_ContainsFunc___string_string__impl_ValidReport_1 DOk.nil))) ck_impl_ValidReport _ _ _ _
theorem ck_impl_report : chkFn Tryd.prog phi 517 impl_report_ir = true := by kernel_rfl
theorem ok_impl_report : FOk Tryd.prog phi 517 impl_report_c := fn_ok hm (D := impl_report_D) (DOk.cons ok_impl_ValidReport DOk.nil) ck_impl_report _ _ _ _
theorem ck_impl_TableLines : chkFn Tryd.prog phi 219 impl_TableLines_ir = true := by kernel_rfl
theorem ok_impl_TableLines : FOk Tryd.prog phi 219 impl_TableLines_c := fn_ok hm (D := impl_TableLines_D) (DOk.cons ok_impl_report (DOk.cons ok_strings_Repeat (DOk.cons ok_strings_Join (DOk.cons ok_strings_TrimRight (DOk.cons ok_impl_areCells DOk.nil))))) ck_impl_TableLines _ _ _ _
theorem ck_impl_PaperReport : chkFn Tryd.prog phi 296 impl_PaperReport_ir = true := by kernel_rfl
theorem ok_impl_PaperReport : FOk Tryd.prog phi 296 impl_PaperReport_c := fn_ok hm (D := impl_PaperReport_D) (DOk.cons ok_impl_TableLines (DOk.cons ok_impl_Decimal (DOk.cons ok_impl_ValidPapers DOk.nil))) ck_impl_PaperReport _ _ _ _
theorem ck_laws_eqStringS : chkFn Tryd.prog phi 137 laws_eqStringS_ir = true := by kernel_rfl
theorem ok_laws_eqStringS : FOk Tryd.prog phi 137 laws_eqStringS_c := fn_ok hm (D := laws_eqStringS_D) DOk.nil ck_laws_eqStringS _ _ _ _
theorem ck_laws_eqPaper : chkFn Tryd.prog phi 728 laws_eqPaper_ir = true := by kernel_rfl
theorem ok_laws_eqPaper : FOk Tryd.prog phi 728 laws_eqPaper_c := fn_ok hm (D := laws_eqPaper_D) DOk.nil ck_laws_eqPaper _ _ _ _
theorem ck_laws_eqPaperS : chkFn Tryd.prog phi 298 laws_eqPaperS_ir = true := by kernel_rfl
theorem ok_laws_eqPaperS : FOk Tryd.prog phi 298 laws_eqPaperS_c := fn_ok hm (D := laws_eqPaperS_D) (DOk.cons ok_laws_eqPaper DOk.nil) ck_laws_eqPaperS _ _ _ _
theorem ck_laws_markText : chkFn Tryd.prog phi 40 laws_markText_ir = true := by kernel_rfl
theorem ok_laws_markText : FOk Tryd.prog phi 40 laws_markText_c := fn_ok hm (D := laws_markText_D) DOk.nil ck_laws_markText _ _ _ _
theorem ck_laws_markPaperS : chkFn Tryd.prog phi 297 laws_markPaperS_ir = true := by kernel_rfl
theorem ok_laws_markPaperS : FOk Tryd.prog phi 297 laws_markPaperS_c := fn_ok hm (D := laws_markPaperS_D) (DOk.cons ok_laws_markText DOk.nil) ck_laws_markPaperS _ _ _ _
theorem ck_laws_markStringS : chkFn Tryd.prog phi 139 laws_markStringS_ir = true := by kernel_rfl
theorem ok_laws_markStringS : FOk Tryd.prog phi 139 laws_markStringS_c := fn_ok hm (D := laws_markStringS_D) (DOk.cons ok_laws_markText DOk.nil) ck_laws_markStringS _ _ _ _
theorem ck_laws_heldStringS : chkFn Tryd.prog phi 136 laws_heldStringS_ir = true := by kernel_rfl
theorem ok_laws_heldStringS : FOk Tryd.prog phi 136 laws_heldStringS_c := fn_ok hm (D := laws_heldStringS_D) (DOk.cons ok_laws_markText DOk.nil) ck_laws_heldStringS _ _ _ _
theorem ck_laws_FnExactPaperReport : chkFn Tryd.prog phi 1243 laws_FnExactPaperReport_ir = true := by kernel_rfl
theorem ok_laws_FnExactPaperReport : FOk Tryd.prog phi 1243 laws_FnExactPaperReport_c := fn_ok hm (D := laws_FnExactPaperReport_D) (DOk.cons ok_laws_heldStringS (DOk.cons ok_laws_eqStringS (DOk.cons ok_laws_markStringS (DOk.cons ok_laws_toPaperS (DOk.cons ok_impl_PaperReport (DOk.cons ok_laws_markPaperS (DOk.cons ok_laws_eqPaperS (DOk.cons ok_spec_PaperReport (DOk.cons ok_laws_szPaperS DOk.nil))))))))) ck_laws_FnExactPaperReport _ _ _ _
theorem law : ∀ x, wfU laws_FnExactPaperReport_c.ps x → ∃ y, laws_FnExactPaperReport_c.f x = some y ∧ resA laws_FnExactPaperReport_c y = ([A.bool true], []) := fun x hx => ⟨true, (laws_FnExactPaperReport_true x.1 hx.1), rfl⟩
theorem own : ownKnob Tryd.prog.godebug = none := by kernel_rfl
theorem laid : laidOutB Tryd.prog = true := by kernel_rfl
theorem reads : ∀ t ∈ Tryd.f3.params.toList, Tryd.prog.readableRec t = true ∧ t < Tryd.prog.types.size := by
  have h : (Tryd.f3.params.toList.all fun t => Tryd.prog.readableRec t && decide (t < Tryd.prog.types.size)) = true := by kernel_rfl
  intro t ht
  have := List.all_eq_true.1 h t ht
  simpa only [Bool.and_eq_true, decide_eq_true_eq] using this
theorem spec_eq (H : Type) : ∀ (ds : List (DataW H)), ds.length = Tryd.f3.params.toList.length → Rows.fnExactPaperReportSpec.fn H ds = { results := [.lit (.bool true)], args := ds } := by
  intro ds hd
  have hd : ds.length = 1 := hd
  match ds, hd with
  | [d0], _ => rfl
theorem tab (W : World) (hL : laidMetH Tryd.prog Rows.fnExactPaperReportRow.laid W) : ∀ i, Tryd.prog.globalNamed pow10Name = some i → Lib.TabIs Tryd.prog W pow10Name .u64 Lib.pow10Tab := by
  intro i hi
  have hp : (Rows.fnExactPaperReportRow.laid.all fun x => x.2.handleName?.isNone) = true := by kernel_rfl
  rw [MakeChecks.laidMetH_plain _ _ _ hp] at hL
  have h1 : laidMet Tryd.prog (("internal/strconv.uint64pow10", Rows.laid_internal_strconv_uint64pow10) :: [("unicode/utf8.acceptRanges", Rows.laid_unicode_utf8_acceptRanges), ("unicode/utf8.first", Rows.laid_unicode_utf8_first)]) W := (laidMet.tail (laidMet.tail hL))
  have e : (Rows.laid_internal_strconv_uint64pow10 : DataW Unit) = Lib.tabData .u64 Lib.pow10Tab := by kernel_rfl
  rw [e] at h1
  exact Lib.tabIs_of_head (t := 124) (e := 107) (n := 20) hi (by obtain rfl := Option.some.inj ((show Tryd.prog.globalNamed pow10Name = some 0 by kernel_rfl).symm.trans hi); kernel_rfl) (by kernel_rfl) (by kernel_rfl) (by kernel_rfl) (by kernel_rfl) h1
theorem errs (W : World) (hL : laidMetH Tryd.prog Rows.fnExactPaperReportRow.laid W) : ∀ n, errNames.contains n = true → ∀ i, Tryd.prog.globalNamed n = some i → ∃ u v, W.var? Tryd.prog n = some #[.iface u v] := by
  intro n hn i hi
  have hn : n = "strconv.ErrSyntax" ∨ n = "strconv.ErrRange" := by simpa [errNames] using hn
  rcases hn with rfl | rfl
  · have h : Tryd.prog.globalNamed "strconv.ErrSyntax" = none := by kernel_rfl
    rw [h] at hi; cases hi
  · have h : Tryd.prog.globalNamed "strconv.ErrRange" = none := by kernel_rfl
    rw [h] at hi; cases hi
theorem contract (H : Type) (enc : TypeId × Value → H) (W : World) (base : Nat) (args : Array Value) (ds gs : List (DataW H)) (before : List MemPlace)
    (hval : ∀ (j : Nat) t v, Tryd.f3.params[j]? = some t → args[j]? = some v → Value.okWide Tryd.prog W .any base t v)
    (hW : DataW.Whole enc Tryd.prog Tryd.f3.params.toList Rows.fnExactPaperReportSpec.vars false W args.toList ds gs before) (hL : laidMetH Tryd.prog Rows.fnExactPaperReportRow.laid W) (hsh : W.ShapedOpen Tryd.prog) :
    Calls Tryd.prog 3 args W fun e W' => ∃ v, e = .returned v ∧ Rows.fnExactPaperReportSpec.post enc Tryd.prog Tryd.f3 false true false false W args v W' :=
  row_contract (φ := phi) (g := 1243) (n := 20) ok_laws_FnExactPaperReport rfl rfl (tb := 4) Tryd.underlying4 (by kernel_rfl) rfl law laid reads spec_eq W base args ds gs before hval hW (Glob.start hsh (tab W hL) (errs W hL))
theorem lifted (os : Os) (started : os.Started) (H : Type) (enc : TypeId × Value → H) :
    ReturnsInHanded {} Tryd.checked os 3 .any (fun w args => (Rows.fnExactPaperReportSpec.pre enc Tryd.prog Tryd.f3 Rows.fnExactPaperReportRow.domain false w args ∧ laidMetH Tryd.prog Rows.fnExactPaperReportRow.laid w) ∧ sizedMet enc Tryd.prog Tryd.f3 (OpenSpec.ofChange Rows.fnExactPaperReportSpec) false w args) (Rows.fnExactPaperReportSpec.post enc Tryd.prog Tryd.f3 false true false false) := by
  refine returnsInHanded_laid (C := Tryd.checked) (laid := Rows.fnExactPaperReportRow.laid) own started (by kernel_rfl) Tryd.func3
    (ChangeSpec.witness_shaped (enc := enc) (C := Tryd.checked) (os := os) (X := fun w _ => laidMetH Tryd.prog Rows.fnExactPaperReportRow.laid w) false (World.laidAll Tryd.prog os Rows.fnExactPaperReportRow.laid) #[.slice none 0 0] 12 (World.laidAll_os _ _ _)
      (World.shaped_of_ZipB (by kernel_rfl) (by kernel_rfl)) (by kernel_rfl) (by kernel_rfl) (by kernel_rfl)
      (by rw [MakeChecks.laidMetH_plain _ _ _ (by kernel_rfl)]; exact laidMet_laidAll _ (by kernel_rfl) (by kernel_rfl))) ?_
  intro W base args ds gs before hval hW hL hsh
  exact contract H enc W base args ds gs before hval hW hL hsh
theorem over : Rows.fnExactPaperReportRow.holds Tryd.pinned (OpenSpec.ofChange Rows.fnExactPaperReportSpec) :=
  OpenClaim.holds_of_wide 3 Tryd.f3 rfl rfl rfl rfl rfl rfl rfl ⟨rfl, rfl, rfl, rfl, rfl⟩ rfl rfl rfl rfl rfl (by kernel_rfl) Tryd.func3 (by kernel_rfl)
    (of_decide_eq_true (by kernel_rfl)) (by unfold Func.isWrapper; first | (rw [if_pos (by decide +kernel)]; kernel_rfl) | (rw [if_neg (by decide +kernel)]; exact ⟨rfl, rfl⟩))
    (fun os started H enc _ => lifted os started H enc)
theorem card : Rows.FnExactPaperReportCardSaid :=
  Claim7.holds_tied_plain_at .later [] [.data, .data, .data, .data, .pinned] true (true, "f46fedbefc2caf6d866cce9cedbf950179ef08c4b934b27281ea47af44fdfe9c") false over (fun _ h => by cases h) (by kernel_rfl) (fun _ h => by cases h) fnExactPaperReport_row_tie rfl ⟨rfl, rfl⟩ (by kernel_rfl) rfl
    (fun f fn hf hfn => by
      obtain rfl : f = 3 := Option.some.inj ((show Tryd.prog.funcNamed "loop.example/g01061/laws.FnExactPaperReport" = some 3 by kernel_rfl).symm.trans hf) |>.symm
      obtain rfl : fn = Tryd.f3 := (Option.some.inj (Tryd.func3.symm.trans hfn)).symm
      exact ⟨by kernel_rfl, fun j t ht => by
        have hm : t ∈ Tryd.f3.params.toList := by simpa using Array.mem_of_getElem? ht
        have hall : (Tryd.f3.params.toList.all fun u => !Tryd.prog.wantsStandIn u) = true := by kernel_rfl
        exact (show Tryd.prog.wantsStandIn t = false by simpa using List.all_eq_true.1 hall t hm)⟩)
    (by kernel_rfl)
/-- The statement. -/
theorem proved : Rows.FnExactPaperReportCardSaid := card
end Go.Proofs.YtdejhkhdilcadaaDoor.fnExactPaperReport
