/- The law FnDrying answers true for every input, whatever it is, and leaves its arguments as they were. Conditions: none. -/
import Derived.Test.YtmleedejgoeggaaQFnDrying
import Derived.Test.YtmleedejgoeggaaRows
import Derived.WalkKit
import Derived.ProofKit
import Derived.OpenShut
import Derived.JoinedOf
import Derived.Handed
set_option linter.unusedVariables false
set_option maxRecDepth 100000
namespace Go.Proofs.Ytmleedejgoeggaa.fnDrying
open Go.Ab Go.Ab.P
open Go.ChangeShapes Go.WideShapes Go.ChangeAt Go.RowKit
def phiL : List (Nat × Nat) := [(76, 9), (441, 69), (847, 145), (463, 84), (480, 101), (445, 76), (481, 100), (642, 140), (479, 102), (478, 103), (119, 41), (22, 173), (21, 109), (24, 155), (23, 78), (483, 105), (682, 156), (485, 104), (484, 106), (27, 88), (452, 83), (486, 108), (849, 157), (482, 107), (114, 42), (118, 43), (117, 44), (66, 12), (487, 110), (116, 45), (115, 46), (113, 47), (448, 79), (112, 48), (11, 174), (12, 175), (13, 158), (1, 143), (490, 112), (850, 159), (851, 160), (492, 111), (491, 113), (16, 144), (853, 162), (488, 115), (852, 161), (489, 114), (111, 49), (1226, 6)]
def phi (n : Nat) : Nat := (phiL.lookup n).getD 1000000
theorem hm : Try.prog.follows .mixedOrders = true := by kernel_rfl
theorem ck_laws_b10Long : chkFn Try.prog phi 76 laws_b10Long_ir = true := by kernel_rfl
theorem ok_laws_b10Long : FOk Try.prog phi 76 laws_b10Long_c := fn_ok hm (D := laws_b10Long_D) DOk.nil ck_laws_b10Long _ _ _ _
theorem ck_spec_l00From : chkFn Try.prog phi 441 spec_l00From_ir = true := by kernel_rfl
theorem ok_spec_l00From : FOk Try.prog phi 441 spec_l00From_c := fn_ok hm (D := spec_l00From_D) DOk.nil ck_spec_l00From _ _ _ _
theorem ck_spec_l00Src_next : chkFn Try.prog phi 847 spec_l00Src_next_ir = true := by kernel_rfl
theorem ok_spec_l00Src_next : FOk Try.prog phi 847 spec_l00Src_next_c := fn_ok hm (D := spec_l00Src_next_D) DOk.nil ck_spec_l00Src_next _ _ _ _
theorem ck_spec_l00Src_pick : chkFn Try.prog phi 463 spec_l00Src_pick_ir = true := by kernel_rfl
theorem ok_spec_l00Src_pick : FOk Try.prog phi 463 spec_l00Src_pick_c := fn_ok hm (D := spec_l00Src_pick_D) (DOk.cons ok_spec_l00Src_next DOk.nil) ck_spec_l00Src_pick _ _ _ _
theorem ck_spec_l04DrawOne : chkFn Try.prog phi 480 spec_l04DrawOne_ir = true := by kernel_rfl
theorem ok_spec_l04DrawOne : FOk Try.prog phi 480 spec_l04DrawOne_c := fn_ok hm (D := spec_l04DrawOne_D) (DOk.cons ok_spec_l00Src_pick DOk.nil) ck_spec_l04DrawOne _ _ _ _
theorem ck_spec_l00Src_among : chkFn Try.prog phi 445 spec_l00Src_among_ir = true := by kernel_rfl
theorem ok_spec_l00Src_among : FOk Try.prog phi 445 spec_l00Src_among_c := fn_ok hm (D := spec_l00Src_among_D) (DOk.cons ok_spec_l00Src_pick DOk.nil) ck_spec_l00Src_among _ _ _ _
theorem ck_spec_l04Bent : chkFn Try.prog phi 481 spec_l04Bent_ir = true := by kernel_rfl
theorem ok_spec_l04Bent : FOk Try.prog phi 481 spec_l04Bent_c := fn_ok hm (D := spec_l04Bent_D) (DOk.cons ok_spec_l00Src_among (DOk.cons ok_spec_l00Src_pick DOk.nil)) ck_spec_l04Bent _ _ _ _
theorem ck_spec_l00Src_one : chkFn Try.prog phi 642 spec_l00Src_one_ir = true := by kernel_rfl
theorem ok_spec_l00Src_one : FOk Try.prog phi 642 spec_l00Src_one_c := fn_ok hm (D := spec_l00Src_one_D) (DOk.cons ok_spec_l00Src_pick DOk.nil) ck_spec_l00Src_one _ _ _ _
theorem ck_spec_l04DrawShare : chkFn Try.prog phi 479 spec_l04DrawShare_ir = true := by kernel_rfl
theorem ok_spec_l04DrawShare : FOk Try.prog phi 479 spec_l04DrawShare_c := fn_ok hm (D := spec_l04DrawShare_D) (DOk.cons ok_spec_l00Src_among (DOk.cons ok_spec_l00Src_pick (DOk.cons ok_spec_l00Src_one DOk.nil))) ck_spec_l04DrawShare _ _ _ _
theorem ck_spec_l04DrawDays : chkFn Try.prog phi 478 spec_l04DrawDays_ir = true := by kernel_rfl
theorem ok_spec_l04DrawDays : FOk Try.prog phi 478 spec_l04DrawDays_c := fn_ok hm (D := spec_l04DrawDays_D) (DOk.cons ok_spec_l00Src_among DOk.nil) ck_spec_l04DrawDays _ _ _ _
theorem ck_spec_DrawMoistureAfter : chkFn Try.prog phi 119 spec_DrawMoistureAfter_ir = true := by kernel_rfl
theorem ok_spec_DrawMoistureAfter : FOk Try.prog phi 119 spec_DrawMoistureAfter_c := fn_ok hm (D := spec_DrawMoistureAfter_D) (DOk.cons ok_spec_l00From (DOk.cons ok_spec_l04DrawDays (DOk.cons ok_spec_l04DrawShare (DOk.cons ok_spec_l04DrawOne (DOk.cons ok_spec_l04Bent DOk.nil))))) ck_spec_DrawMoistureAfter _ _ _ _
theorem ck_impl_isDigit : chkFn Try.prog phi 22 impl_isDigit_ir = true := by kernel_rfl
theorem ok_impl_isDigit : FOk Try.prog phi 22 impl_isDigit_c := fn_ok hm (D := impl_isDigit_D) DOk.nil ck_impl_isDigit _ _ _ _
theorem ck_impl_few : chkFn Try.prog phi 21 impl_few_ir = true := by kernel_rfl
theorem ok_impl_few : FOk Try.prog phi 21 impl_few_c := fn_ok hm (D := impl_few_D) DOk.nil ck_impl_few _ _ _ _
theorem ck_impl_IsName : chkFn Try.prog phi 24 impl_IsName_ir = true := by kernel_rfl
theorem ok_impl_IsName : FOk Try.prog phi 24 impl_IsName_c := fn_ok hm (D := impl_IsName_D) (DOk.cons ok_impl_few (DOk.cons ok_impl_isDigit DOk.nil)) ck_impl_IsName _ _ _ _
theorem ck_impl_within : chkFn Try.prog phi 23 impl_within_ir = true := by kernel_rfl
theorem ok_impl_within : FOk Try.prog phi 23 impl_within_c := fn_ok hm (D := impl_within_D) DOk.nil ck_impl_within _ _ _ _
theorem ck_impl_isPart : chkFn Try.prog phi 483 impl_isPart_ir = true := by kernel_rfl
theorem ok_impl_isPart : FOk Try.prog phi 483 impl_isPart_c := fn_ok hm (D := impl_isPart_D) (DOk.cons ok_impl_within DOk.nil) ck_impl_isPart _ _ _ _
theorem ck_impl_isDay : chkFn Try.prog phi 682 impl_isDay_ir = true := by kernel_rfl
theorem ok_impl_isDay : FOk Try.prog phi 682 impl_isDay_c := fn_ok hm (D := impl_isDay_D) (DOk.cons ok_impl_within DOk.nil) ck_impl_isDay _ _ _ _
theorem ck_impl_Stack_valid : chkFn Try.prog phi 485 impl_Stack_valid_ir = true := by kernel_rfl
theorem ok_impl_Stack_valid : FOk Try.prog phi 485 impl_Stack_valid_c := fn_ok hm (D := impl_Stack_valid_D) (DOk.cons ok_impl_within (DOk.cons ok_impl_IsName (DOk.cons ok_impl_isPart (DOk.cons ok_impl_isDay DOk.nil)))) ck_impl_Stack_valid _ _ _ _
theorem ck_impl_isDry : chkFn Try.prog phi 484 impl_isDry_ir = true := by kernel_rfl
theorem ok_impl_isDry : FOk Try.prog phi 484 impl_isDry_c := fn_ok hm (D := impl_isDry_D) (DOk.cons ok_impl_within DOk.nil) ck_impl_isDry _ _ _ _
theorem ck_impl_divRound : chkFn Try.prog phi 27 impl_divRound_ir = true := by kernel_rfl
theorem ok_impl_divRound : FOk Try.prog phi 27 impl_divRound_c := fn_ok hm (D := impl_divRound_D) DOk.nil ck_impl_divRound _ _ _ _
theorem ck_impl_blend : chkFn Try.prog phi 452 impl_blend_ir = true := by kernel_rfl
theorem ok_impl_blend : FOk Try.prog phi 452 impl_blend_c := fn_ok hm (D := impl_blend_D) (DOk.cons ok_impl_divRound DOk.nil) ck_impl_blend _ _ _ _
theorem ck_impl_even : chkFn Try.prog phi 486 impl_even_ir = true := by kernel_rfl
theorem ok_impl_even : FOk Try.prog phi 486 impl_even_c := fn_ok hm (D := impl_even_D) (DOk.cons ok_impl_blend DOk.nil) ck_impl_even _ _ _ _
theorem ck_impl_change : chkFn Try.prog phi 849 impl_change_ir = true := by kernel_rfl
theorem ok_impl_change : FOk Try.prog phi 849 impl_change_c := fn_ok hm (D := impl_change_D) (DOk.cons ok_impl_divRound DOk.nil) ck_impl_change _ _ _ _
theorem ck_impl_Stack_after : chkFn Try.prog phi 482 impl_Stack_after_ir = true := by kernel_rfl
theorem ok_impl_Stack_after : FOk Try.prog phi 482 impl_Stack_after_c := fn_ok hm (D := impl_Stack_after_D) (DOk.cons ok_impl_even (DOk.cons ok_impl_change DOk.nil)) ck_impl_Stack_after _ _ _ _
theorem ck_impl_MoistureAfter : chkFn Try.prog phi 114 impl_MoistureAfter_ir = true := by kernel_rfl
theorem ok_impl_MoistureAfter : FOk Try.prog phi 114 impl_MoistureAfter_c := fn_ok hm (D := impl_MoistureAfter_D) (DOk.cons ok_impl_Stack_after (DOk.cons ok_impl_isPart (DOk.cons ok_impl_isDry (DOk.cons ok_impl_Stack_valid DOk.nil)))) ck_impl_MoistureAfter _ _ _ _
theorem ck_impl_EvenMoisture : chkFn Try.prog phi 118 impl_EvenMoisture_ir = true := by kernel_rfl
theorem ok_impl_EvenMoisture : FOk Try.prog phi 118 impl_EvenMoisture_c := fn_ok hm (D := impl_EvenMoisture_D) (DOk.cons ok_impl_isPart (DOk.cons ok_impl_even DOk.nil)) ck_impl_EvenMoisture _ _ _ _
theorem ck_impl_StagesFor : chkFn Try.prog phi 117 impl_StagesFor_ir = true := by kernel_rfl
theorem ok_impl_StagesFor : FOk Try.prog phi 117 impl_StagesFor_c := fn_ok hm (D := impl_StagesFor_D) (DOk.cons ok_impl_few (DOk.cons ok_impl_Stack_after (DOk.cons ok_impl_isPart (DOk.cons ok_impl_isDry (DOk.cons ok_impl_Stack_valid DOk.nil))))) ck_impl_StagesFor _ _ _ _
theorem ck_laws_b10Abs : chkFn Try.prog phi 66 laws_b10Abs_ir = true := by kernel_rfl
theorem ok_laws_b10Abs : FOk Try.prog phi 66 laws_b10Abs_c := fn_ok hm (D := laws_b10Abs_D) DOk.nil ck_laws_b10Abs _ _ _ _
theorem ck_spec_l04DrawGoal : chkFn Try.prog phi 487 spec_l04DrawGoal_ir = true := by kernel_rfl
theorem ok_spec_l04DrawGoal : FOk Try.prog phi 487 spec_l04DrawGoal_c := fn_ok hm (D := spec_l04DrawGoal_D) (DOk.cons ok_spec_l00Src_among (DOk.cons ok_spec_l00Src_pick (DOk.cons ok_spec_l00Src_one DOk.nil))) ck_spec_l04DrawGoal _ _ _ _
theorem ck_spec_DrawDaysToDry : chkFn Try.prog phi 116 spec_DrawDaysToDry_ir = true := by kernel_rfl
theorem ok_spec_DrawDaysToDry : FOk Try.prog phi 116 spec_DrawDaysToDry_c := fn_ok hm (D := spec_DrawDaysToDry_D) (DOk.cons ok_spec_l00From (DOk.cons ok_spec_l04DrawShare (DOk.cons ok_spec_l04DrawOne (DOk.cons ok_spec_l04Bent (DOk.cons ok_spec_l04DrawGoal DOk.nil))))) ck_spec_DrawDaysToDry _ _ _ _
theorem ck_impl_DaysToDry : chkFn Try.prog phi 115 impl_DaysToDry_ir = true := by kernel_rfl
theorem ok_impl_DaysToDry : FOk Try.prog phi 115 impl_DaysToDry_c := fn_ok hm (D := impl_DaysToDry_D) (DOk.cons ok_impl_Stack_after (DOk.cons ok_impl_isPart (DOk.cons ok_impl_Stack_valid DOk.nil))) ck_impl_DaysToDry _ _ _ _
theorem ck_spec_DrawCrackDays : chkFn Try.prog phi 113 spec_DrawCrackDays_ir = true := by kernel_rfl
theorem ok_spec_DrawCrackDays : FOk Try.prog phi 113 spec_DrawCrackDays_c := fn_ok hm (D := spec_DrawCrackDays_D) (DOk.cons ok_spec_l00From (DOk.cons ok_spec_l00Src_among (DOk.cons ok_spec_l04DrawDays (DOk.cons ok_spec_l04DrawShare (DOk.cons ok_spec_l04DrawOne (DOk.cons ok_spec_l04Bent DOk.nil)))))) ck_spec_DrawCrackDays _ _ _ _
theorem ck_impl_distance : chkFn Try.prog phi 448 impl_distance_ir = true := by kernel_rfl
theorem ok_impl_distance : FOk Try.prog phi 448 impl_distance_c := fn_ok hm (D := impl_distance_D) DOk.nil ck_impl_distance _ _ _ _
theorem ck_impl_CrackDays : chkFn Try.prog phi 112 impl_CrackDays_ir = true := by kernel_rfl
theorem ok_impl_CrackDays : FOk Try.prog phi 112 impl_CrackDays_c := fn_ok hm (D := impl_CrackDays_D) (DOk.cons ok_impl_distance (DOk.cons ok_impl_Stack_after (DOk.cons ok_impl_isPart (DOk.cons ok_impl_isDry (DOk.cons ok_impl_Stack_valid DOk.nil))))) ck_impl_CrackDays _ _ _ _
theorem ck_spec_l01Small : chkFn Try.prog phi 11 spec_l01Small_ir = true := by kernel_rfl
theorem ok_spec_l01Small : FOk Try.prog phi 11 spec_l01Small_c := fn_ok hm (D := spec_l01Small_D) DOk.nil ck_spec_l01Small _ _ _ _
theorem ck_spec_l01Digit : chkFn Try.prog phi 12 spec_l01Digit_ir = true := by kernel_rfl
theorem ok_spec_l01Digit : FOk Try.prog phi 12 spec_l01Digit_c := fn_ok hm (D := spec_l01Digit_D) DOk.nil ck_spec_l01Digit _ _ _ _
theorem ck_spec_l01Name : chkFn Try.prog phi 13 spec_l01Name_ir = true := by kernel_rfl
theorem ok_spec_l01Name : FOk Try.prog phi 13 spec_l01Name_c := fn_ok hm (D := spec_l01Name_D) (DOk.cons ok_spec_l01Small (DOk.cons ok_spec_l01Digit DOk.nil)) ck_spec_l01Name _ _ _ _
theorem ck_spec_l00In : chkFn Try.prog phi 1 spec_l00In_ir = true := by kernel_rfl
theorem ok_spec_l00In : FOk Try.prog phi 1 spec_l00In_c := fn_ok hm (D := spec_l00In_D) DOk.nil ck_spec_l00In _ _ _ _
theorem ck_spec_l04Share : chkFn Try.prog phi 490 spec_l04Share_ir = true := by kernel_rfl
theorem ok_spec_l04Share : FOk Try.prog phi 490 spec_l04Share_c := fn_ok hm (D := spec_l04Share_D) (DOk.cons ok_spec_l00In DOk.nil) ck_spec_l04Share _ _ _ _
theorem ck_spec_l04Thick : chkFn Try.prog phi 850 spec_l04Thick_ir = true := by kernel_rfl
theorem ok_spec_l04Thick : FOk Try.prog phi 850 spec_l04Thick_c := fn_ok hm (D := spec_l04Thick_D) (DOk.cons ok_spec_l00In DOk.nil) ck_spec_l04Thick _ _ _ _
theorem ck_spec_l02Day : chkFn Try.prog phi 851 spec_l02Day_ir = true := by kernel_rfl
theorem ok_spec_l02Day : FOk Try.prog phi 851 spec_l02Day_c := fn_ok hm (D := spec_l02Day_D) (DOk.cons ok_spec_l00In DOk.nil) ck_spec_l02Day _ _ _ _
theorem ck_spec_l04One : chkFn Try.prog phi 492 spec_l04One_ir = true := by kernel_rfl
theorem ok_spec_l04One : FOk Try.prog phi 492 spec_l04One_c := fn_ok hm (D := spec_l04One_D) (DOk.cons ok_spec_l01Name (DOk.cons ok_spec_l04Share (DOk.cons ok_spec_l04Thick (DOk.cons ok_spec_l02Day DOk.nil)))) ck_spec_l04One _ _ _ _
theorem ck_spec_l04Days : chkFn Try.prog phi 491 spec_l04Days_ir = true := by kernel_rfl
theorem ok_spec_l04Days : FOk Try.prog phi 491 spec_l04Days_c := fn_ok hm (D := spec_l04Days_D) (DOk.cons ok_spec_l00In DOk.nil) ck_spec_l04Days _ _ _ _
theorem ck_spec_l01Div : chkFn Try.prog phi 16 spec_l01Div_ir = true := by kernel_rfl
theorem ok_spec_l01Div : FOk Try.prog phi 16 spec_l01Div_c := fn_ok hm (D := spec_l01Div_D) DOk.nil ck_spec_l01Div _ _ _ _
theorem ck_spec_l01Line : chkFn Try.prog phi 853 spec_l01Line_ir = true := by kernel_rfl
theorem ok_spec_l01Line : FOk Try.prog phi 853 spec_l01Line_c := fn_ok hm (D := spec_l01Line_D) (DOk.cons ok_spec_l01Div DOk.nil) ck_spec_l01Line _ _ _ _
theorem ck_spec_l04Even : chkFn Try.prog phi 488 spec_l04Even_ir = true := by kernel_rfl
theorem ok_spec_l04Even : FOk Try.prog phi 488 spec_l04Even_c := fn_ok hm (D := spec_l04Even_D) (DOk.cons ok_spec_l01Line DOk.nil) ck_spec_l04Even _ _ _ _
theorem ck_spec_l04Change : chkFn Try.prog phi 852 spec_l04Change_ir = true := by kernel_rfl
theorem ok_spec_l04Change : FOk Try.prog phi 852 spec_l04Change_c := fn_ok hm (D := spec_l04Change_D) (DOk.cons ok_spec_l01Div DOk.nil) ck_spec_l04Change _ _ _ _
theorem ck_spec_l04After : chkFn Try.prog phi 489 spec_l04After_ir = true := by kernel_rfl
theorem ok_spec_l04After : FOk Try.prog phi 489 spec_l04After_c := fn_ok hm (D := spec_l04After_D) (DOk.cons ok_spec_l04Change DOk.nil) ck_spec_l04After _ _ _ _
theorem ck_spec_MoistureAfter : chkFn Try.prog phi 111 spec_MoistureAfter_ir = true := by kernel_rfl
theorem ok_spec_MoistureAfter : FOk Try.prog phi 111 spec_MoistureAfter_c := fn_ok hm (D := spec_MoistureAfter_D) (DOk.cons ok_spec_l04Even (DOk.cons ok_spec_l04After (DOk.cons ok_spec_l04Share (DOk.cons ok_spec_l04Days (DOk.cons ok_spec_l04One DOk.nil))))) ck_spec_MoistureAfter _ _ _ _
theorem ck_laws_FnDrying : chkFn Try.prog phi 1226 laws_FnDrying_ir = true := by kernel_rfl
theorem ok_laws_FnDrying : FOk Try.prog phi 1226 laws_FnDrying_c := fn_ok hm (D := laws_FnDrying_D) (DOk.cons ok_laws_b10Abs (DOk.cons ok_laws_b10Long (DOk.cons ok_spec_MoistureAfter (DOk.cons ok_impl_CrackDays (DOk.cons ok_spec_DrawCrackDays (DOk.cons ok_impl_MoistureAfter (DOk.cons ok_impl_DaysToDry (DOk.cons ok_spec_DrawDaysToDry (DOk.cons ok_impl_StagesFor (DOk.cons ok_impl_EvenMoisture (DOk.cons ok_spec_DrawMoistureAfter DOk.nil))))))))))) ck_laws_FnDrying _ _ _ _
theorem law : ∀ x, wfU laws_FnDrying_c.ps x → ∃ y, laws_FnDrying_c.f x = some y ∧ resA laws_FnDrying_c y = ([A.bool true], []) := fun x hx => ⟨true, (laws_FnDrying_true x.1 x.2.1 hx.1 hx.2.1), rfl⟩
theorem own : ownKnob Try.prog.godebug = none := by kernel_rfl
theorem laid : laidOutB Try.prog = true := by kernel_rfl
theorem reads : ∀ t ∈ Try.f6.params.toList, Try.prog.readableRec t = true ∧ t < Try.prog.types.size := by
  have h : (Try.f6.params.toList.all fun t => Try.prog.readableRec t && decide (t < Try.prog.types.size)) = true := by kernel_rfl
  intro t ht
  have := List.all_eq_true.1 h t ht
  simpa only [Bool.and_eq_true, decide_eq_true_eq] using this
theorem spec_eq (H : Type) : ∀ (ds : List (DataW H)), ds.length = Try.f6.params.toList.length → Rows.fnDryingSpec.fn H ds = { results := [.lit (.bool true)], args := ds } := by
  intro ds hd
  have hd : ds.length = 2 := hd
  match ds, hd with
  | [d0, d1], _ => rfl
theorem contract (H : Type) (enc : TypeId × Value → H) (W : World) (base : Nat) (args : Array Value) (ds gs : List (DataW H)) (before : List MemPlace)
    (hval : ∀ (j : Nat) t v, Try.f6.params[j]? = some t → args[j]? = some v → Value.okWide Try.prog W .any base t v)
    (hW : DataW.Whole enc Try.prog Try.f6.params.toList Rows.fnDryingSpec.vars false W args.toList ds gs before) :
    Calls Try.prog 6 args W fun e W' => ∃ v, e = .returned v ∧ Rows.fnDryingSpec.post enc Try.prog Try.f6 false true false false W args v W' :=
  row_contract (φ := phi) (g := 1226) (n := 20) ok_laws_FnDrying rfl rfl (tb := 4) Try.underlying4 (by kernel_rfl) rfl law laid reads spec_eq W base args ds gs before hval hW
theorem lifted (os : Os) (started : os.Started) (H : Type) (enc : TypeId × Value → H) :
    ReturnsInHanded {} Try.checked os 6 .any (Rows.fnDryingSpec.pre6 enc Try.prog Try.f6 Rows.fnDryingRow.domain false) (Rows.fnDryingSpec.post enc Try.prog Try.f6 false true false false) := by
  refine returnsInHanded_of_change (C := Try.checked) own started (by kernel_rfl) Try.func6
    (ChangeSpec.witness6 (enc := enc) (C := Try.checked) false ⟨#[], #[.slice none 0 0, .slice none 0 0], []⟩ 12 (by kernel_rfl) (by kernel_rfl) (by kernel_rfl) (by kernel_rfl)) ?_
  intro W base args ds gs before hval hW _ _
  exact contract H enc W base args ds gs before hval hW
theorem over : Rows.fnDryingRow.holds Try.pinned (OpenSpec.ofChange Rows.fnDryingSpec) :=
  OpenClaim.holds_of_wide 6 Try.f6 rfl rfl rfl rfl rfl rfl rfl ⟨rfl, rfl, rfl, rfl, rfl⟩ rfl rfl rfl rfl rfl (by kernel_rfl) Try.func6 (by kernel_rfl)
    (of_decide_eq_true (by kernel_rfl)) (by unfold Func.isWrapper; first | (rw [if_pos (by decide +kernel)]; kernel_rfl) | (rw [if_neg (by decide +kernel)]; exact ⟨rfl, rfl⟩))
    (fun os started H enc _ => lifted os started H enc)
/-- The statement. -/
theorem proved : Rows.FnDryingSaid := over
end Go.Proofs.Ytmleedejgoeggaa.fnDrying
