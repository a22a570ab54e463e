/- The law FnDates answers true for every input, whatever it is, and leaves its arguments as they were. Conditions: none. -/
import Derived.Test.YtbijadelckpmjaaDoorQFnDates
import Derived.Test.YtbijadelckpmjaaDoorRows
import Derived.Test.YtbijadelckpmjaaDoorL5
import Derived.Test.YtbijadelckpmjaaDoorShelf
import Derived.Test.YtbijadelckpmjaaDoorCards
import Derived.Test.YtbijadelckpmjaaDoorTie
import Derived.LaidMore
import Derived.Lay
import Derived.SevenTiedAt
import Derived.Stop.Joined
import Derived.WalkKit
import Derived.ProofKit
import Derived.OpenShut
import Derived.JoinedOf
import Derived.Handed
set_option linter.unusedVariables false
set_option maxRecDepth 100000
namespace Go.Proofs.YtbijadelckpmjaaDoor.fnDates
open Go.Ab Go.Ab.P
open Go.ChangeShapes Go.WideShapes Go.ChangeAt Go.RowKit
def phiL : List (Nat × Nat) := [(76, 6), (441, 46), (847, 78), (463, 49), (642, 47), (445, 48), (679, 65), (264, 24), (23, 50), (682, 66), (680, 68), (681, 67), (263, 25), (262, 26), (864, 84), (524, 60), (518, 79), (668, 51), (260, 28), (683, 69), (22, 82), (673, 57), (261, 27), (684, 70), (259, 29), (258, 30), (256, 31), (257, 32), (1228, 4)]
def phi (n : Nat) : Nat := (phiL.lookup n).getD 1000000
theorem hm : Tryd.prog.follows .mixedOrders = true := by kernel_rfl
theorem ck_laws_b10Long : chkFn Tryd.prog phi 76 laws_b10Long_ir = true := by kernel_rfl
theorem ok_laws_b10Long : FOk Tryd.prog phi 76 laws_b10Long_c := fn_ok hm (D := laws_b10Long_D) DOk.nil ck_laws_b10Long _ _ _ _
theorem ck_spec_l00From : chkFn Tryd.prog phi 441 spec_l00From_ir = true := by kernel_rfl
theorem ok_spec_l00From : FOk Tryd.prog phi 441 spec_l00From_c := fn_ok hm (D := spec_l00From_D) DOk.nil ck_spec_l00From _ _ _ _
theorem ck_spec_l00Src_next : chkFn Tryd.prog phi 847 spec_l00Src_next_ir = true := by kernel_rfl
theorem ok_spec_l00Src_next : FOk Tryd.prog phi 847 spec_l00Src_next_c := fn_ok hm (D := spec_l00Src_next_D) DOk.nil ck_spec_l00Src_next _ _ _ _
theorem ck_spec_l00Src_pick : chkFn Tryd.prog phi 463 spec_l00Src_pick_ir = true := by kernel_rfl
theorem ok_spec_l00Src_pick : FOk Tryd.prog phi 463 spec_l00Src_pick_c := fn_ok hm (D := spec_l00Src_pick_D) (DOk.cons ok_spec_l00Src_next DOk.nil) ck_spec_l00Src_pick _ _ _ _
theorem ck_spec_l00Src_one : chkFn Tryd.prog phi 642 spec_l00Src_one_ir = true := by kernel_rfl
theorem ok_spec_l00Src_one : FOk Tryd.prog phi 642 spec_l00Src_one_c := fn_ok hm (D := spec_l00Src_one_D) (DOk.cons ok_spec_l00Src_pick DOk.nil) ck_spec_l00Src_one _ _ _ _
theorem ck_spec_l00Src_among : chkFn Tryd.prog phi 445 spec_l00Src_among_ir = true := by kernel_rfl
theorem ok_spec_l00Src_among : FOk Tryd.prog phi 445 spec_l00Src_among_c := fn_ok hm (D := spec_l00Src_among_D) (DOk.cons ok_spec_l00Src_pick DOk.nil) ck_spec_l00Src_among _ _ _ _
theorem ck_spec_l02DrawDay : chkFn Tryd.prog phi 679 spec_l02DrawDay_ir = true := by kernel_rfl
theorem ok_spec_l02DrawDay : FOk Tryd.prog phi 679 spec_l02DrawDay_c := fn_ok hm (D := spec_l02DrawDay_D) (DOk.cons ok_spec_l00Src_among (DOk.cons ok_spec_l00Src_pick (DOk.cons ok_spec_l00Src_one DOk.nil))) ck_spec_l02DrawDay _ _ _ _
theorem ck_spec_DrawDateOf : chkFn Tryd.prog phi 264 spec_DrawDateOf_ir = true := by kernel_rfl
theorem ok_spec_DrawDateOf : FOk Tryd.prog phi 264 spec_DrawDateOf_c := fn_ok hm (D := spec_DrawDateOf_D) (DOk.cons ok_spec_l00From (DOk.cons ok_spec_l02DrawDay DOk.nil)) ck_spec_DrawDateOf _ _ _ _
theorem ck_impl_within : chkFn Tryd.prog phi 23 impl_within_ir = true := by kernel_rfl
theorem ok_impl_within : FOk Tryd.prog phi 23 impl_within_c := fn_ok hm (D := impl_within_D) DOk.nil ck_impl_within _ _ _ _
theorem ck_impl_isDay : chkFn Tryd.prog phi 682 impl_isDay_ir = true := by kernel_rfl
theorem ok_impl_isDay : FOk Tryd.prog phi 682 impl_isDay_c := fn_ok hm (D := impl_isDay_D) (DOk.cons ok_impl_within DOk.nil) ck_impl_isDay _ _ _ _
theorem ck_impl_monthDays : chkFn Tryd.prog phi 680 impl_monthDays_ir = true := by kernel_rfl
theorem ok_impl_monthDays : FOk Tryd.prog phi 680 impl_monthDays_c := fn_ok hm (D := impl_monthDays_D) DOk.nil ck_impl_monthDays _ _ _ _
theorem ck_impl_yearDays : chkFn Tryd.prog phi 681 impl_yearDays_ir = true := by kernel_rfl
theorem ok_impl_yearDays : FOk Tryd.prog phi 681 impl_yearDays_c := fn_ok hm (D := impl_yearDays_D) (DOk.cons ok_impl_monthDays DOk.nil) ck_impl_yearDays _ _ _ _
theorem ck_impl_DateOf : chkFn Tryd.prog phi 263 impl_DateOf_ir = true := by kernel_rfl
theorem ok_impl_DateOf : FOk Tryd.prog phi 263 impl_DateOf_c := fn_ok hm (D := impl_DateOf_D) (DOk.cons ok_impl_monthDays (DOk.cons ok_impl_yearDays (DOk.cons ok_impl_isDay DOk.nil))) ck_impl_DateOf _ _ _ _
theorem ck_impl_DayNumber : chkFn Tryd.prog phi 262 impl_DayNumber_ir = true := by kernel_rfl
theorem ok_impl_DayNumber : FOk Tryd.prog phi 262 impl_DayNumber_c := fn_ok hm (D := impl_DayNumber_D) (DOk.cons ok_impl_within (DOk.cons ok_impl_monthDays (DOk.cons ok_impl_yearDays DOk.nil))) ck_impl_DayNumber _ _ _ _
theorem ok_strconv_FormatInt : FOk Tryd.prog phi 864 strconv_FormatInt_c := formatInt_ok Tryd.laysM173 ⟨1, by kernel_rfl⟩ (by kernel_rfl)
theorem ck_impl_Decimal : chkFn Tryd.prog phi 524 impl_Decimal_ir = true := by kernel_rfl
theorem ok_impl_Decimal : FOk Tryd.prog phi 524 impl_Decimal_c := fn_ok hm (D := impl_Decimal_D) (DOk.cons ok_strconv_FormatInt DOk.nil) ck_impl_Decimal _ _ _ _
theorem ok_strings_Repeat : FOk Tryd.prog phi 518 strings_Repeat_c := repeat_ok Tryd.lays105 Tryd.Builder_Extra_105 (by kernel_rfl)
theorem ck_impl_padded : chkFn Tryd.prog phi 668 impl_padded_ir = true := by kernel_rfl
theorem ok_impl_padded : FOk Tryd.prog phi 668 impl_padded_c := fn_ok hm (D := impl_padded_D) (DOk.cons ok_strings_Repeat (DOk.cons ok_impl_Decimal DOk.nil)) ck_impl_padded _ _ _ _
theorem ck_impl_DateText : chkFn Tryd.prog phi 260 impl_DateText_ir = true := by kernel_rfl
theorem ok_impl_DateText : FOk Tryd.prog phi 260 impl_DateText_c := fn_ok hm (D := impl_DateText_D) (DOk.cons ok_impl_DateOf (DOk.cons ok_impl_Decimal (DOk.cons ok_impl_padded DOk.nil))) ck_impl_DateText _ _ _ _
theorem ok_strings_Split : FOk Tryd.prog phi 683 strings_Split_c := split_ok Tryd.laysM146 (of_decide_eq_true (by kernel_rfl)) (by kernel_rfl)
theorem ck_impl_isDigit : chkFn Tryd.prog phi 22 impl_isDigit_ir = true := by kernel_rfl
theorem ok_impl_isDigit : FOk Tryd.prog phi 22 impl_isDigit_c := fn_ok hm (D := impl_isDigit_D) DOk.nil ck_impl_isDigit _ _ _ _
theorem ck_impl_digitsOf : chkFn Tryd.prog phi 673 impl_digitsOf_ir = true := by kernel_rfl
theorem ok_impl_digitsOf : FOk Tryd.prog phi 673 impl_digitsOf_c := fn_ok hm (D := impl_digitsOf_D) (DOk.cons ok_impl_isDigit DOk.nil) ck_impl_digitsOf _ _ _ _
theorem ck_impl_ReadDate : chkFn Tryd.prog phi 261 impl_ReadDate_ir = true := by kernel_rfl
theorem ok_impl_ReadDate : FOk Tryd.prog phi 261 impl_ReadDate_c := fn_ok hm (D := impl_ReadDate_D) (DOk.cons ok_impl_DateText (DOk.cons ok_impl_DayNumber (DOk.cons ok_impl_digitsOf (DOk.cons ok_strings_Split DOk.nil)))) ck_impl_ReadDate _ _ _ _
theorem ck_impl_weekday : chkFn Tryd.prog phi 684 impl_weekday_ir = true := by kernel_rfl
theorem ok_impl_weekday : FOk Tryd.prog phi 684 impl_weekday_c := fn_ok hm (D := impl_weekday_D) DOk.nil ck_impl_weekday _ _ _ _
theorem ck_impl_WeekdayOf : chkFn Tryd.prog phi 259 impl_WeekdayOf_ir = true := by kernel_rfl
theorem ok_impl_WeekdayOf : FOk Tryd.prog phi 259 impl_WeekdayOf_c := fn_ok hm (D := impl_WeekdayOf_D) (DOk.cons ok_impl_isDay (DOk.cons ok_impl_weekday DOk.nil)) ck_impl_WeekdayOf _ _ _ _
theorem ck_spec_DrawWorkDays : chkFn Tryd.prog phi 258 spec_DrawWorkDays_ir = true := by kernel_rfl
theorem ok_spec_DrawWorkDays : FOk Tryd.prog phi 258 spec_DrawWorkDays_c := fn_ok hm (D := spec_DrawWorkDays_D) (DOk.cons ok_spec_l00From (DOk.cons ok_spec_l00Src_among (DOk.cons ok_spec_l02DrawDay DOk.nil))) ck_spec_DrawWorkDays _ _ _ _
theorem ck_impl_WorkDays : chkFn Tryd.prog phi 256 impl_WorkDays_ir = true := by kernel_rfl
theorem ok_impl_WorkDays : FOk Tryd.prog phi 256 impl_WorkDays_c := fn_ok hm (D := impl_WorkDays_D) (DOk.cons ok_impl_within (DOk.cons ok_impl_isDay (DOk.cons ok_impl_weekday DOk.nil))) ck_impl_WorkDays _ _ _ _
theorem ck_laws_b10At : chkFn Tryd.prog phi 257 laws_b10At_ir = true := by kernel_rfl
theorem ok_laws_b10At : FOk Tryd.prog phi 257 laws_b10At_c := fn_ok hm (D := laws_b10At_D) DOk.nil ck_laws_b10At _ _ _ _
theorem ck_laws_FnDates : chkFn Tryd.prog phi 1228 laws_FnDates_ir = true := by kernel_rfl
theorem ok_laws_FnDates : FOk Tryd.prog phi 1228 laws_FnDates_c := fn_ok hm (D := laws_FnDates_D) (DOk.cons ok_laws_b10Long (DOk.cons ok_impl_WorkDays (DOk.cons ok_laws_b10At (DOk.cons ok_spec_DrawWorkDays (DOk.cons ok_impl_WeekdayOf (DOk.cons ok_impl_DateText (DOk.cons ok_impl_ReadDate (DOk.cons ok_impl_DayNumber (DOk.cons ok_impl_DateOf (DOk.cons ok_spec_DrawDateOf DOk.nil)))))))))) ck_laws_FnDates _ _ _ _
theorem law : ∀ x, wfU laws_FnDates_c.ps x → ∃ y, laws_FnDates_c.f x = some y ∧ resA laws_FnDates_c y = ([A.bool true], []) := fun x hx => ⟨true, (laws_FnDates_true x.1 x.2.1 hx.1 hx.2.1), rfl⟩
theorem own : ownKnob Tryd.prog.godebug = none := by kernel_rfl
theorem laid : laidOutB Tryd.prog = true := by kernel_rfl
theorem reads : ∀ t ∈ Tryd.f4.params.toList, Tryd.prog.readableRec t = true ∧ t < Tryd.prog.types.size := by
  have h : (Tryd.f4.params.toList.all fun t => Tryd.prog.readableRec t && decide (t < Tryd.prog.types.size)) = true := by kernel_rfl
  intro t ht
  have := List.all_eq_true.1 h t ht
  simpa only [Bool.and_eq_true, decide_eq_true_eq] using this
theorem spec_eq (H : Type) : ∀ (ds : List (DataW H)), ds.length = Tryd.f4.params.toList.length → Rows.fnDatesSpec.fn H ds = { results := [.lit (.bool true)], args := ds } := by
  intro ds hd
  have hd : ds.length = 2 := hd
  match ds, hd with
  | [d0, d1], _ => rfl
theorem tab (W : World) (hL : laidMetH Tryd.prog Rows.fnDatesRow.laid W) : ∀ i, Tryd.prog.globalNamed pow10Name = some i → Lib.TabIs Tryd.prog W pow10Name .u64 Lib.pow10Tab := by
  intro i hi
  have hp : (Rows.fnDatesRow.laid.all fun x => x.2.handleName?.isNone) = true := by kernel_rfl
  rw [MakeChecks.laidMetH_plain _ _ _ hp] at hL
  have h1 : laidMet Tryd.prog (("internal/strconv.uint64pow10", Rows.laid_internal_strconv_uint64pow10) :: [("unicode/utf8.acceptRanges", Rows.laid_unicode_utf8_acceptRanges), ("unicode/utf8.first", Rows.laid_unicode_utf8_first)]) W := (laidMet.tail (laidMet.tail hL))
  have e : (Rows.laid_internal_strconv_uint64pow10 : DataW Unit) = Lib.tabData .u64 Lib.pow10Tab := by kernel_rfl
  rw [e] at h1
  exact Lib.tabIs_of_head (t := 129) (e := 80) (n := 20) hi (by obtain rfl := Option.some.inj ((show Tryd.prog.globalNamed pow10Name = some 1 by kernel_rfl).symm.trans hi); kernel_rfl) (by kernel_rfl) (by kernel_rfl) (by kernel_rfl) (by kernel_rfl) h1
theorem contract (H : Type) (enc : TypeId × Value → H) (W : World) (base : Nat) (args : Array Value) (ds gs : List (DataW H)) (before : List MemPlace)
    (hval : ∀ (j : Nat) t v, Tryd.f4.params[j]? = some t → args[j]? = some v → Value.okWide Tryd.prog W .any base t v)
    (hW : DataW.Whole enc Tryd.prog Tryd.f4.params.toList Rows.fnDatesSpec.vars false W args.toList ds gs before) (hL : laidMetH Tryd.prog Rows.fnDatesRow.laid W) (hsh : W.ShapedOpen Tryd.prog) :
    Calls Tryd.prog 4 args W fun e W' => ∃ v, e = .returned v ∧ Rows.fnDatesSpec.post enc Tryd.prog Tryd.f4 false true false false W args v W' :=
  row_contract (φ := phi) (g := 1228) (n := 20) ok_laws_FnDates rfl rfl (tb := 4) Tryd.underlying4 (by kernel_rfl) rfl law laid reads spec_eq W base args ds gs before hval hW (Glob.start hsh (tab W hL))
theorem lifted (os : Os) (started : os.Started) (H : Type) (enc : TypeId × Value → H) :
    ReturnsInHanded {} Tryd.checked os 4 .any (fun w args => (Rows.fnDatesSpec.pre enc Tryd.prog Tryd.f4 Rows.fnDatesRow.domain false w args ∧ laidMetH Tryd.prog Rows.fnDatesRow.laid w) ∧ sizedMet enc Tryd.prog Tryd.f4 (OpenSpec.ofChange Rows.fnDatesSpec) false w args) (Rows.fnDatesSpec.post enc Tryd.prog Tryd.f4 false true false false) := by
  refine returnsInHanded_laid (C := Tryd.checked) (laid := Rows.fnDatesRow.laid) own started (by kernel_rfl) Tryd.func4
    (ChangeSpec.witness_shaped (enc := enc) (C := Tryd.checked) (os := os) (X := fun w _ => laidMetH Tryd.prog Rows.fnDatesRow.laid w) false (World.laidAll Tryd.prog os Rows.fnDatesRow.laid) #[.slice none 0 0, .slice none 0 0] 12 (World.laidAll_os _ _ _)
      (World.shaped_of_ZipB (by kernel_rfl) (by kernel_rfl)) (by kernel_rfl) (by kernel_rfl) (by kernel_rfl)
      (by rw [MakeChecks.laidMetH_plain _ _ _ (by kernel_rfl)]; exact laidMet_laidAll _ (by kernel_rfl) (by kernel_rfl))) ?_
  intro W base args ds gs before hval hW hL hsh
  exact contract H enc W base args ds gs before hval hW hL hsh
theorem over : Rows.fnDatesRow.holds Tryd.pinned (OpenSpec.ofChange Rows.fnDatesSpec) :=
  OpenClaim.holds_of_wide 4 Tryd.f4 rfl rfl rfl rfl rfl rfl rfl ⟨rfl, rfl, rfl, rfl, rfl⟩ rfl rfl rfl rfl rfl (by kernel_rfl) Tryd.func4 (by kernel_rfl)
    (of_decide_eq_true (by kernel_rfl)) (by unfold Func.isWrapper; first | (rw [if_pos (by decide +kernel)]; kernel_rfl) | (rw [if_neg (by decide +kernel)]; exact ⟨rfl, rfl⟩))
    (fun os started H enc _ => lifted os started H enc)
theorem card : Rows.FnDatesCardSaid :=
  Claim7.holds_tied_plain_at .later [] [.data, .data, .data, .data, .pinned] true (true, "1392dc62c1b2b191221079823d01ef24d5e6a800f7d6bbbfca5d4126b531323d") true over (fun _ h => by cases h) (by kernel_rfl) (fun _ h => by cases h) fnDates_row_tie rfl ⟨rfl, rfl⟩ (by kernel_rfl) rfl
    (fun f fn hf hfn => by
      obtain rfl : f = 4 := Option.some.inj ((show Tryd.prog.funcNamed "loop.example/g01061/laws.FnDates" = some 4 by kernel_rfl).symm.trans hf) |>.symm
      obtain rfl : fn = Tryd.f4 := (Option.some.inj (Tryd.func4.symm.trans hfn)).symm
      exact ⟨by kernel_rfl, fun j t ht => by
        have hm : t ∈ Tryd.f4.params.toList := by simpa using Array.mem_of_getElem? ht
        have hall : (Tryd.f4.params.toList.all fun u => !Tryd.prog.wantsStandIn u) = true := by kernel_rfl
        exact (show Tryd.prog.wantsStandIn t = false by simpa using List.all_eq_true.1 hall t hm)⟩)
    (by kernel_rfl)
/-- The statement. -/
theorem proved : Rows.FnDatesCardSaid := card
end Go.Proofs.YtbijadelckpmjaaDoor.fnDates
