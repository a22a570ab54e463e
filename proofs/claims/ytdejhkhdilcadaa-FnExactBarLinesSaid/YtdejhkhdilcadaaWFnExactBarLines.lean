/- The law FnExactBarLines answers true for every input, whatever it is, and leaves its arguments as they were. Conditions: none. -/
import Derived.Test.YtdejhkhdilcadaaQFnExactBarLines
import Derived.Test.YtdejhkhdilcadaaRows
import Derived.Test.YtdejhkhdilcadaaL5
import Derived.Test.YtdejhkhdilcadaaShelf
import Derived.WalkKit
import Derived.ProofKit
import Derived.OpenShut
import Derived.JoinedOf
import Derived.Handed
set_option linter.unusedVariables false
set_option maxRecDepth 100000
namespace Go.Proofs.Ytdejhkhdilcadaa.fnExactBarLines
open Go.Ab Go.Ab.P
open Go.ChangeShapes Go.WideShapes Go.ChangeAt Go.RowKit
def phiL : List (Nat × Nat) := [(121, 9), (1, 39), (17, 40), (988, 115), (822, 86), (516, 41), (140, 16), (23, 42), (518, 43), (21, 34), (1024, 123), (872, 122), (1237, 129), (1238, 121), (566, 93), (517, 44), (138, 17), (137, 18), (42, 11), (45, 14), (40, 38), (139, 19), (136, 20), (1242, 4)]
def phi (n : Nat) : Nat := (phiL.lookup n).getD 1000000
theorem hm : Try.prog.follows .mixedOrders = true := by kernel_rfl
theorem ck_laws_toInt64S : chkFn Try.prog phi 121 laws_toInt64S_ir = true := by kernel_rfl
theorem ok_laws_toInt64S : FOk Try.prog phi 121 laws_toInt64S_c := fn_ok hm (D := laws_toInt64S_D) DOk.nil ck_laws_toInt64S _ _ _ _
theorem ck_spec_l00In : chkFn Try.prog phi 1 spec_l00In_ir = true := by kernel_rfl
theorem ok_spec_l00In : FOk Try.prog phi 1 spec_l00In_c := fn_ok hm (D := spec_l00In_D) DOk.nil ck_spec_l00In _ _ _ _
theorem ck_spec_l00Max : chkFn Try.prog phi 17 spec_l00Max_ir = true := by kernel_rfl
theorem ok_spec_l00Max : FOk Try.prog phi 17 spec_l00Max_c := fn_ok hm (D := spec_l00Max_D) DOk.nil ck_spec_l00Max _ _ _ _
theorem ck_spec_l30Line : chkFn Try.prog phi 988 spec_l30Line_ir = true := by kernel_rfl
theorem ok_spec_l30Line : FOk Try.prog phi 988 spec_l30Line_c := fn_ok hm (D := spec_l30Line_D) DOk.nil ck_spec_l30Line _ _ _ _
theorem ck_spec_l30Ok : chkFn Try.prog phi 822 spec_l30Ok_ir = true := by kernel_rfl
theorem ok_spec_l30Ok : FOk Try.prog phi 822 spec_l30Ok_c := fn_ok hm (D := spec_l30Ok_D) (DOk.cons ok_spec_l30Line DOk.nil) ck_spec_l30Ok _ _ _ _
theorem ck_spec_l30Done : chkFn Try.prog phi 516 spec_l30Done_ir = true := by kernel_rfl
theorem ok_spec_l30Done : FOk Try.prog phi 516 spec_l30Done_c := fn_ok hm (D := spec_l30Done_D) (DOk.cons ok_spec_l30Ok DOk.nil) ck_spec_l30Done _ _ _ _
theorem ck_spec_BarLines : chkFn Try.prog phi 140 spec_BarLines_ir = true := by kernel_rfl
theorem ok_spec_BarLines : FOk Try.prog phi 140 spec_BarLines_c := fn_ok hm (D := spec_BarLines_D) (DOk.cons ok_spec_l00In (DOk.cons ok_spec_l00Max (DOk.cons ok_spec_l30Done DOk.nil))) ck_spec_BarLines _ _ _ _
theorem ck_impl_within : chkFn Try.prog phi 23 impl_within_ir = true := by kernel_rfl
theorem ok_impl_within : FOk Try.prog phi 23 impl_within_c := fn_ok hm (D := impl_within_D) DOk.nil ck_impl_within _ _ _ _
theorem ok_strings_Repeat : FOk Try.prog phi 518 strings_Repeat_c := repeat_ok Try.lays105 Try.Builder_Extra_105 (by kernel_rfl)
theorem ck_impl_few : chkFn Try.prog phi 21 impl_few_ir = true := by kernel_rfl
theorem ok_impl_few : FOk Try.prog phi 21 impl_few_c := fn_ok hm (D := impl_few_D) DOk.nil ck_impl_few _ _ _ _
theorem ck_impl_isLine : chkFn Try.prog phi 1024 impl_isLine_ir = true := by kernel_rfl
theorem ok_impl_isLine : FOk Try.prog phi 1024 impl_isLine_c := fn_ok hm (D := impl_isLine_D) (DOk.cons ok_impl_few (DOk.cons ok_impl_within DOk.nil)) ck_impl_isLine _ _ _ _
theorem ck_impl_ValidReport_1 : chkFn Try.prog phi 872 impl_ValidReport_1_ir = true := by kernel_rfl
theorem ok_impl_ValidReport_1 : FOk Try.prog phi 872 impl_ValidReport_1_c := fn_ok hm (D := impl_ValidReport_1_D) (DOk.cons ok_impl_isLine DOk.nil) ck_impl_ValidReport_1 _ _ _ _
theorem ck_slices_IndexFunc___string_string__impl_ValidReport_1 : chkFn Try.prog phi 1237 slices_IndexFunc___string_string__impl_ValidReport_1_ir = true := by kernel_rfl
theorem ok_slices_IndexFunc___string_string__impl_ValidReport_1 : FOk Try.prog phi 1237 slices_IndexFunc___string_string__impl_ValidReport_1_c := fn_ok hm (D := slices_IndexFunc___string_string__impl_ValidReport_1_D) (DOk.cons ok_impl_ValidReport_1 DOk.nil) ck_slices_IndexFunc___string_string__impl_ValidReport_1 _ _ _ _
theorem ck_slices_ContainsFunc___string_string__impl_ValidReport_1 : chkFn Try.prog phi 1238 slices_ContainsFunc___string_string__impl_ValidReport_1_ir = true := by kernel_rfl
theorem ok_slices_ContainsFunc___string_string__impl_ValidReport_1 : FOk Try.prog phi 1238 slices_ContainsFunc___string_string__impl_ValidReport_1_c := fn_ok hm (D := slices_ContainsFunc___string_string__impl_ValidReport_1_D) (DOk.cons ok_impl_ValidReport_1 (DOk.cons ok_slices_IndexFunc___string_string__impl_ValidReport_1 DOk.nil)) ck_slices_ContainsFunc___string_string__impl_ValidReport_1 _ _ _ _
theorem ck_impl_ValidReport : chkFn Try.prog phi 566 impl_ValidReport_ir = true := by kernel_rfl
theorem ok_impl_ValidReport : FOk Try.prog phi 566 impl_ValidReport_c := fn_ok hm (D := impl_ValidReport_D) (DOk.cons ok_impl_few (DOk.cons ok_impl_ValidReport_1 (DOk.cons ok_slices_ContainsFunc___string_string__impl_ValidReport_1 DOk.nil))) ck_impl_ValidReport _ _ _ _
theorem ck_impl_report : chkFn Try.prog phi 517 impl_report_ir = true := by kernel_rfl
theorem ok_impl_report : FOk Try.prog phi 517 impl_report_c := fn_ok hm (D := impl_report_D) (DOk.cons ok_impl_ValidReport DOk.nil) ck_impl_report _ _ _ _
theorem ck_impl_BarLines : chkFn Try.prog phi 138 impl_BarLines_ir = true := by kernel_rfl
theorem ok_impl_BarLines : FOk Try.prog phi 138 impl_BarLines_c := fn_ok hm (D := impl_BarLines_D) (DOk.cons ok_impl_within (DOk.cons ok_impl_report (DOk.cons ok_strings_Repeat DOk.nil))) ck_impl_BarLines _ _ _ _
theorem ck_laws_eqStringS : chkFn Try.prog phi 137 laws_eqStringS_ir = true := by kernel_rfl
theorem ok_laws_eqStringS : FOk Try.prog phi 137 laws_eqStringS_c := fn_ok hm (D := laws_eqStringS_D) DOk.nil ck_laws_eqStringS _ _ _ _
theorem ck_laws_eqInt64S : chkFn Try.prog phi 42 laws_eqInt64S_ir = true := by kernel_rfl
theorem ok_laws_eqInt64S : FOk Try.prog phi 42 laws_eqInt64S_c := fn_ok hm (D := laws_eqInt64S_D) DOk.nil ck_laws_eqInt64S _ _ _ _
theorem ck_laws_markInt64S : chkFn Try.prog phi 45 laws_markInt64S_ir = true := by kernel_rfl
theorem ok_laws_markInt64S : FOk Try.prog phi 45 laws_markInt64S_c := fn_ok hm (D := laws_markInt64S_D) DOk.nil ck_laws_markInt64S _ _ _ _
theorem ck_laws_markText : chkFn Try.prog phi 40 laws_markText_ir = true := by kernel_rfl
theorem ok_laws_markText : FOk Try.prog phi 40 laws_markText_c := fn_ok hm (D := laws_markText_D) DOk.nil ck_laws_markText _ _ _ _
theorem ck_laws_markStringS : chkFn Try.prog phi 139 laws_markStringS_ir = true := by kernel_rfl
theorem ok_laws_markStringS : FOk Try.prog phi 139 laws_markStringS_c := fn_ok hm (D := laws_markStringS_D) (DOk.cons ok_laws_markText DOk.nil) ck_laws_markStringS _ _ _ _
theorem ck_laws_heldStringS : chkFn Try.prog phi 136 laws_heldStringS_ir = true := by kernel_rfl
theorem ok_laws_heldStringS : FOk Try.prog phi 136 laws_heldStringS_c := fn_ok hm (D := laws_heldStringS_D) (DOk.cons ok_laws_markText DOk.nil) ck_laws_heldStringS _ _ _ _
theorem ck_laws_FnExactBarLines : chkFn Try.prog phi 1242 laws_FnExactBarLines_ir = true := by kernel_rfl
theorem ok_laws_FnExactBarLines : FOk Try.prog phi 1242 laws_FnExactBarLines_c := fn_ok hm (D := laws_FnExactBarLines_D) (DOk.cons ok_laws_eqInt64S (DOk.cons ok_laws_markInt64S (DOk.cons ok_laws_toInt64S (DOk.cons ok_laws_heldStringS (DOk.cons ok_laws_eqStringS (DOk.cons ok_impl_BarLines (DOk.cons ok_laws_markStringS (DOk.cons ok_spec_BarLines DOk.nil)))))))) ck_laws_FnExactBarLines _ _ _ _
theorem law : ∀ x, wfU laws_FnExactBarLines_c.ps x → ∃ y, laws_FnExactBarLines_c.f x = some y ∧ resA laws_FnExactBarLines_c y = ([A.bool true], []) := fun x hx => ⟨true, (laws_FnExactBarLines_true x.1 x.2.1 hx.1 hx.2.1), rfl⟩
theorem own : ownKnob Try.prog.godebug = none := by kernel_rfl
theorem laid : laidOutB Try.prog = true := by kernel_rfl
theorem reads : ∀ t ∈ Try.f4.params.toList, Try.prog.readableRec t = true ∧ t < Try.prog.types.size := by
  have h : (Try.f4.params.toList.all fun t => Try.prog.readableRec t && decide (t < Try.prog.types.size)) = true := by kernel_rfl
  intro t ht
  have := List.all_eq_true.1 h t ht
  simpa only [Bool.and_eq_true, decide_eq_true_eq] using this
theorem spec_eq (H : Type) : ∀ (ds : List (DataW H)), ds.length = Try.f4.params.toList.length → Rows.fnExactBarLinesSpec.fn H ds = { results := [.lit (.bool true)], args := ds } := by
  intro ds hd
  have hd : ds.length = 2 := hd
  match ds, hd with
  | [d0, d1], _ => rfl
theorem tab (W : World) : ∀ i, Try.prog.globalNamed pow10Name = some i → Lib.TabIs Try.prog W pow10Name .u64 Lib.pow10Tab := by
  intro i hi
  have h : Try.prog.globalNamed pow10Name = none := by kernel_rfl
  rw [h] at hi; cases hi
theorem errs (W : World) : ∀ n, errNames.contains n = true → ∀ i, Try.prog.globalNamed n = some i → ∃ u v, W.var? Try.prog n = some #[.iface u v] := by
  intro n hn i hi
  have hn : n = "strconv.ErrSyntax" ∨ n = "strconv.ErrRange" := by simpa [errNames] using hn
  rcases hn with rfl | rfl
  · have h : Try.prog.globalNamed "strconv.ErrSyntax" = none := by kernel_rfl
    rw [h] at hi; cases hi
  · have h : Try.prog.globalNamed "strconv.ErrRange" = none := by kernel_rfl
    rw [h] at hi; cases hi
theorem contract (H : Type) (enc : TypeId × Value → H) (W : World) (base : Nat) (args : Array Value) (ds gs : List (DataW H)) (before : List MemPlace)
    (hval : ∀ (j : Nat) t v, Try.f4.params[j]? = some t → args[j]? = some v → Value.okWide Try.prog W .any base t v)
    (hW : DataW.Whole enc Try.prog Try.f4.params.toList Rows.fnExactBarLinesSpec.vars false W args.toList ds gs before) (hsh : W.ShapedOpen Try.prog) :
    Calls Try.prog 4 args W fun e W' => ∃ v, e = .returned v ∧ Rows.fnExactBarLinesSpec.post enc Try.prog Try.f4 false true false false W args v W' :=
  row_contract (φ := phi) (g := 1242) (n := 20) ok_laws_FnExactBarLines rfl rfl (tb := 4) Try.underlying4 (by kernel_rfl) rfl law laid reads spec_eq W base args ds gs before hval hW (Glob.start hsh (tab W) (errs W))
theorem lifted (os : Os) (started : os.Started) (H : Type) (enc : TypeId × Value → H) :
    ReturnsInHanded {} Try.checked os 4 .any (Rows.fnExactBarLinesSpec.pre6 enc Try.prog Try.f4 Rows.fnExactBarLinesRow.domain false) (Rows.fnExactBarLinesSpec.post enc Try.prog Try.f4 false true false false) := by
  refine returnsInHanded_of_change_shaped (C := Try.checked) own started (by kernel_rfl) Try.func4
    (ChangeSpec.witness6 (enc := enc) (C := Try.checked) false ⟨#[], #[.slice none 0 0, .int .i64 0], []⟩ 12 (by kernel_rfl) (by kernel_rfl) (by kernel_rfl) (by kernel_rfl)) ?_
  intro W base args ds gs before hval hW _ _ hsh _
  exact contract H enc W base args ds gs before hval hW hsh
theorem over : Rows.fnExactBarLinesRow.holds Try.pinned (OpenSpec.ofChange Rows.fnExactBarLinesSpec) :=
  OpenClaim.holds_of_wide 4 Try.f4 rfl rfl rfl rfl rfl rfl rfl ⟨rfl, rfl, rfl, rfl, rfl⟩ rfl rfl rfl rfl rfl (by kernel_rfl) Try.func4 (by kernel_rfl)
    (of_decide_eq_true (by kernel_rfl)) (by unfold Func.isWrapper; first | (rw [if_pos (by decide +kernel)]; kernel_rfl) | (rw [if_neg (by decide +kernel)]; exact ⟨rfl, rfl⟩))
    (fun os started H enc _ => lifted os started H enc)
/-- The statement. -/
theorem proved : Rows.FnExactBarLinesSaid := over
end Go.Proofs.Ytdejhkhdilcadaa.fnExactBarLines
