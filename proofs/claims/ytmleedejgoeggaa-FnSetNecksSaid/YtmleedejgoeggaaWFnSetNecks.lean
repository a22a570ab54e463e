/- The law FnSetNecks answers true for every input, whatever it is, and leaves its arguments as they were. Conditions: none. -/
import Derived.Test.YtmleedejgoeggaaQFnSetNecks
import Derived.Test.YtmleedejgoeggaaRows
import Derived.WalkKit
import Derived.ProofKit
import Derived.OpenShut
import Derived.JoinedOf
import Derived.Handed
set_option linter.unusedVariables false
set_option maxRecDepth 100000
namespace Go.Proofs.Ytmleedejgoeggaa.fnSetNecks
open Go.Ab Go.Ab.P
open Go.ChangeShapes Go.WideShapes Go.ChangeAt Go.RowKit
def phiL : List (Nat × Nat) := [(76, 9), (441, 69), (847, 145), (463, 84), (843, 141), (445, 76), (439, 71), (642, 140), (440, 70), (75, 10), (23, 78), (444, 72), (21, 109), (443, 73), (448, 79), (442, 74), (74, 11), (66, 12), (446, 75), (73, 13), (449, 77), (27, 88), (447, 80), (72, 14), (71, 15), (1, 143), (844, 142), (451, 81), (16, 144), (450, 82), (70, 16), (69, 17), (68, 18), (452, 83), (67, 19), (1224, 3)]
def phi (n : Nat) : Nat := (phiL.lookup n).getD 1000000
theorem hm : Try.prog.follows .mixedOrders = true := by kernel_rfl
theorem ck_laws_b10Long : chkFn Try.prog phi 76 laws_b10Long_ir = true := by kernel_rfl
theorem ok_laws_b10Long : FOk Try.prog phi 76 laws_b10Long_c := fn_ok hm (D := laws_b10Long_D) DOk.nil ck_laws_b10Long _ _ _ _
theorem ck_spec_l00From : chkFn Try.prog phi 441 spec_l00From_ir = true := by kernel_rfl
theorem ok_spec_l00From : FOk Try.prog phi 441 spec_l00From_c := fn_ok hm (D := spec_l00From_D) DOk.nil ck_spec_l00From _ _ _ _
theorem ck_spec_l00Src_next : chkFn Try.prog phi 847 spec_l00Src_next_ir = true := by kernel_rfl
theorem ok_spec_l00Src_next : FOk Try.prog phi 847 spec_l00Src_next_c := fn_ok hm (D := spec_l00Src_next_D) DOk.nil ck_spec_l00Src_next _ _ _ _
theorem ck_spec_l00Src_pick : chkFn Try.prog phi 463 spec_l00Src_pick_ir = true := by kernel_rfl
theorem ok_spec_l00Src_pick : FOk Try.prog phi 463 spec_l00Src_pick_c := fn_ok hm (D := spec_l00Src_pick_D) (DOk.cons ok_spec_l00Src_next DOk.nil) ck_spec_l00Src_pick _ _ _ _
theorem ck_spec_l10DrawOk : chkFn Try.prog phi 843 spec_l10DrawOk_ir = true := by kernel_rfl
theorem ok_spec_l10DrawOk : FOk Try.prog phi 843 spec_l10DrawOk_c := fn_ok hm (D := spec_l10DrawOk_D) (DOk.cons ok_spec_l00Src_pick DOk.nil) ck_spec_l10DrawOk _ _ _ _
theorem ck_spec_l00Src_among : chkFn Try.prog phi 445 spec_l00Src_among_ir = true := by kernel_rfl
theorem ok_spec_l00Src_among : FOk Try.prog phi 445 spec_l00Src_among_c := fn_ok hm (D := spec_l00Src_among_D) (DOk.cons ok_spec_l00Src_pick DOk.nil) ck_spec_l00Src_among _ _ _ _
theorem ck_spec_l10Draw : chkFn Try.prog phi 439 spec_l10Draw_ir = true := by kernel_rfl
theorem ok_spec_l10Draw : FOk Try.prog phi 439 spec_l10Draw_c := fn_ok hm (D := spec_l10Draw_D) (DOk.cons ok_spec_l00Src_among (DOk.cons ok_spec_l00Src_pick (DOk.cons ok_spec_l10DrawOk DOk.nil))) ck_spec_l10Draw _ _ _ _
theorem ck_spec_l00Src_one : chkFn Try.prog phi 642 spec_l00Src_one_ir = true := by kernel_rfl
theorem ok_spec_l00Src_one : FOk Try.prog phi 642 spec_l00Src_one_c := fn_ok hm (D := spec_l00Src_one_D) (DOk.cons ok_spec_l00Src_pick DOk.nil) ck_spec_l00Src_one _ _ _ _
theorem ck_spec_l10DrawList : chkFn Try.prog phi 440 spec_l10DrawList_ir = true := by kernel_rfl
theorem ok_spec_l10DrawList : FOk Try.prog phi 440 spec_l10DrawList_c := fn_ok hm (D := spec_l10DrawList_D) (DOk.cons ok_spec_l10Draw (DOk.cons ok_spec_l00Src_among (DOk.cons ok_spec_l00Src_pick (DOk.cons ok_spec_l00Src_one (DOk.cons ok_spec_l10DrawOk DOk.nil))))) ck_spec_l10DrawList _ _ _ _
theorem ck_spec_DrawNearestNeck : chkFn Try.prog phi 75 spec_DrawNearestNeck_ir = true := by kernel_rfl
theorem ok_spec_DrawNearestNeck : FOk Try.prog phi 75 spec_DrawNearestNeck_c := fn_ok hm (D := spec_DrawNearestNeck_D) (DOk.cons ok_spec_l10Draw (DOk.cons ok_spec_l10DrawList (DOk.cons ok_spec_l00From DOk.nil))) ck_spec_DrawNearestNeck _ _ _ _
theorem ck_impl_within : chkFn Try.prog phi 23 impl_within_ir = true := by kernel_rfl
theorem ok_impl_within : FOk Try.prog phi 23 impl_within_c := fn_ok hm (D := impl_within_D) DOk.nil ck_impl_within _ _ _ _
theorem ck_impl_ValidNeck : chkFn Try.prog phi 444 impl_ValidNeck_ir = true := by kernel_rfl
theorem ok_impl_ValidNeck : FOk Try.prog phi 444 impl_ValidNeck_c := fn_ok hm (D := impl_ValidNeck_D) (DOk.cons ok_impl_within DOk.nil) ck_impl_ValidNeck _ _ _ _
theorem ck_impl_few : chkFn Try.prog phi 21 impl_few_ir = true := by kernel_rfl
theorem ok_impl_few : FOk Try.prog phi 21 impl_few_c := fn_ok hm (D := impl_few_D) DOk.nil ck_impl_few _ _ _ _
theorem ck_impl_necksCode : chkFn Try.prog phi 443 impl_necksCode_ir = true := by kernel_rfl
theorem ok_impl_necksCode : FOk Try.prog phi 443 impl_necksCode_c := fn_ok hm (D := impl_necksCode_D) (DOk.cons ok_impl_few (DOk.cons ok_impl_ValidNeck DOk.nil)) ck_impl_necksCode _ _ _ _
theorem ck_impl_distance : chkFn Try.prog phi 448 impl_distance_ir = true := by kernel_rfl
theorem ok_impl_distance : FOk Try.prog phi 448 impl_distance_c := fn_ok hm (D := impl_distance_D) DOk.nil ck_impl_distance _ _ _ _
theorem ck_impl_Neck_away : chkFn Try.prog phi 442 impl_Neck_away_ir = true := by kernel_rfl
theorem ok_impl_Neck_away : FOk Try.prog phi 442 impl_Neck_away_c := fn_ok hm (D := impl_Neck_away_D) (DOk.cons ok_impl_distance DOk.nil) ck_impl_Neck_away _ _ _ _
theorem ck_impl_NearestNeck : chkFn Try.prog phi 74 impl_NearestNeck_ir = true := by kernel_rfl
theorem ok_impl_NearestNeck : FOk Try.prog phi 74 impl_NearestNeck_c := fn_ok hm (D := impl_NearestNeck_D) (DOk.cons ok_impl_Neck_away (DOk.cons ok_impl_necksCode (DOk.cons ok_impl_ValidNeck DOk.nil))) ck_impl_NearestNeck _ _ _ _
theorem ck_laws_b10Abs : chkFn Try.prog phi 66 laws_b10Abs_ir = true := by kernel_rfl
theorem ok_laws_b10Abs : FOk Try.prog phi 66 laws_b10Abs_c := fn_ok hm (D := laws_b10Abs_D) DOk.nil ck_laws_b10Abs _ _ _ _
theorem ck_spec_l10DrawHeight : chkFn Try.prog phi 446 spec_l10DrawHeight_ir = true := by kernel_rfl
theorem ok_spec_l10DrawHeight : FOk Try.prog phi 446 spec_l10DrawHeight_c := fn_ok hm (D := spec_l10DrawHeight_D) (DOk.cons ok_spec_l00Src_among (DOk.cons ok_spec_l00Src_pick (DOk.cons ok_spec_l00Src_one DOk.nil))) ck_spec_l10DrawHeight _ _ _ _
theorem ck_spec_DrawSetNecks : chkFn Try.prog phi 73 spec_DrawSetNecks_ir = true := by kernel_rfl
theorem ok_spec_DrawSetNecks : FOk Try.prog phi 73 spec_DrawSetNecks_c := fn_ok hm (D := spec_DrawSetNecks_D) (DOk.cons ok_spec_l10DrawList (DOk.cons ok_spec_l00From (DOk.cons ok_spec_l00Src_among (DOk.cons ok_spec_l10DrawHeight DOk.nil)))) ck_spec_DrawSetNecks _ _ _ _
theorem ck_impl_isHeight : chkFn Try.prog phi 449 impl_isHeight_ir = true := by kernel_rfl
theorem ok_impl_isHeight : FOk Try.prog phi 449 impl_isHeight_c := fn_ok hm (D := impl_isHeight_D) (DOk.cons ok_impl_within DOk.nil) ck_impl_isHeight _ _ _ _
theorem ck_impl_divRound : chkFn Try.prog phi 27 impl_divRound_ir = true := by kernel_rfl
theorem ok_impl_divRound : FOk Try.prog phi 27 impl_divRound_c := fn_ok hm (D := impl_divRound_D) DOk.nil ck_impl_divRound _ _ _ _
theorem ck_impl_Neck_projection : chkFn Try.prog phi 447 impl_Neck_projection_ir = true := by kernel_rfl
theorem ok_impl_Neck_projection : FOk Try.prog phi 447 impl_Neck_projection_c := fn_ok hm (D := impl_Neck_projection_D) (DOk.cons ok_impl_divRound DOk.nil) ck_impl_Neck_projection _ _ _ _
theorem ck_impl_SetNecks : chkFn Try.prog phi 72 impl_SetNecks_ir = true := by kernel_rfl
theorem ok_impl_SetNecks : FOk Try.prog phi 72 impl_SetNecks_c := fn_ok hm (D := impl_SetNecks_D) (DOk.cons ok_impl_within (DOk.cons ok_impl_necksCode (DOk.cons ok_impl_Neck_projection (DOk.cons ok_impl_distance (DOk.cons ok_impl_isHeight DOk.nil))))) ck_impl_SetNecks _ _ _ _
theorem ck_laws_b10Rises : chkFn Try.prog phi 71 laws_b10Rises_ir = true := by kernel_rfl
theorem ok_laws_b10Rises : FOk Try.prog phi 71 laws_b10Rises_c := fn_ok hm (D := laws_b10Rises_D) DOk.nil ck_laws_b10Rises _ _ _ _
theorem ck_spec_l00In : chkFn Try.prog phi 1 spec_l00In_ir = true := by kernel_rfl
theorem ok_spec_l00In : FOk Try.prog phi 1 spec_l00In_c := fn_ok hm (D := spec_l00In_D) DOk.nil ck_spec_l00In _ _ _ _
theorem ck_spec_l10Size : chkFn Try.prog phi 844 spec_l10Size_ir = true := by kernel_rfl
theorem ok_spec_l10Size : FOk Try.prog phi 844 spec_l10Size_c := fn_ok hm (D := spec_l10Size_D) (DOk.cons ok_spec_l00In DOk.nil) ck_spec_l10Size _ _ _ _
theorem ck_spec_l10Ok : chkFn Try.prog phi 451 spec_l10Ok_ir = true := by kernel_rfl
theorem ok_spec_l10Ok : FOk Try.prog phi 451 spec_l10Ok_c := fn_ok hm (D := spec_l10Ok_D) (DOk.cons ok_spec_l00In (DOk.cons ok_spec_l10Size DOk.nil)) ck_spec_l10Ok _ _ _ _
theorem ck_spec_l01Div : chkFn Try.prog phi 16 spec_l01Div_ir = true := by kernel_rfl
theorem ok_spec_l01Div : FOk Try.prog phi 16 spec_l01Div_c := fn_ok hm (D := spec_l01Div_D) DOk.nil ck_spec_l01Div _ _ _ _
theorem ck_spec_l10High : chkFn Try.prog phi 450 spec_l10High_ir = true := by kernel_rfl
theorem ok_spec_l10High : FOk Try.prog phi 450 spec_l10High_c := fn_ok hm (D := spec_l10High_D) (DOk.cons ok_spec_l01Div DOk.nil) ck_spec_l10High _ _ _ _
theorem ck_spec_ProjectionOf : chkFn Try.prog phi 70 spec_ProjectionOf_ir = true := by kernel_rfl
theorem ok_spec_ProjectionOf : FOk Try.prog phi 70 spec_ProjectionOf_c := fn_ok hm (D := spec_ProjectionOf_D) (DOk.cons ok_spec_l10High (DOk.cons ok_spec_l10Ok DOk.nil)) ck_spec_ProjectionOf _ _ _ _
theorem ck_laws_b10Has : chkFn Try.prog phi 69 laws_b10Has_ir = true := by kernel_rfl
theorem ok_laws_b10Has : FOk Try.prog phi 69 laws_b10Has_c := fn_ok hm (D := laws_b10Has_D) DOk.nil ck_laws_b10Has _ _ _ _
theorem ck_spec_DrawHeightsAlong : chkFn Try.prog phi 68 spec_DrawHeightsAlong_ir = true := by kernel_rfl
theorem ok_spec_DrawHeightsAlong : FOk Try.prog phi 68 spec_DrawHeightsAlong_c := fn_ok hm (D := spec_DrawHeightsAlong_D) (DOk.cons ok_spec_l00From (DOk.cons ok_spec_l00Src_among (DOk.cons ok_spec_l10DrawHeight DOk.nil))) ck_spec_DrawHeightsAlong _ _ _ _
theorem ck_impl_blend : chkFn Try.prog phi 452 impl_blend_ir = true := by kernel_rfl
theorem ok_impl_blend : FOk Try.prog phi 452 impl_blend_c := fn_ok hm (D := impl_blend_D) (DOk.cons ok_impl_divRound DOk.nil) ck_impl_blend _ _ _ _
theorem ck_impl_HeightsAlong : chkFn Try.prog phi 67 impl_HeightsAlong_ir = true := by kernel_rfl
theorem ok_impl_HeightsAlong : FOk Try.prog phi 67 impl_HeightsAlong_c := fn_ok hm (D := impl_HeightsAlong_D) (DOk.cons ok_impl_within (DOk.cons ok_impl_isHeight (DOk.cons ok_impl_blend DOk.nil))) ck_impl_HeightsAlong _ _ _ _
theorem ck_laws_FnSetNecks : chkFn Try.prog phi 1224 laws_FnSetNecks_ir = true := by kernel_rfl
theorem ok_laws_FnSetNecks : FOk Try.prog phi 1224 laws_FnSetNecks_c := fn_ok hm (D := laws_FnSetNecks_D) (DOk.cons ok_laws_b10Abs (DOk.cons ok_impl_HeightsAlong (DOk.cons ok_spec_DrawHeightsAlong (DOk.cons ok_laws_b10Has (DOk.cons ok_spec_ProjectionOf (DOk.cons ok_laws_b10Rises (DOk.cons ok_impl_SetNecks (DOk.cons ok_spec_DrawSetNecks (DOk.cons ok_impl_NearestNeck (DOk.cons ok_spec_DrawNearestNeck (DOk.cons ok_laws_b10Long DOk.nil))))))))))) ck_laws_FnSetNecks _ _ _ _
theorem law : ∀ x, wfU laws_FnSetNecks_c.ps x → ∃ y, laws_FnSetNecks_c.f x = some y ∧ resA laws_FnSetNecks_c y = ([A.bool true], []) := fun x hx => ⟨true, (laws_FnSetNecks_true x.1 x.2.1 hx.1 hx.2.1), rfl⟩
theorem own : ownKnob Try.prog.godebug = none := by kernel_rfl
theorem laid : laidOutB Try.prog = true := by kernel_rfl
theorem reads : ∀ t ∈ Try.f3.params.toList, Try.prog.readableRec t = true ∧ t < Try.prog.types.size := by
  have h : (Try.f3.params.toList.all fun t => Try.prog.readableRec t && decide (t < Try.prog.types.size)) = true := by kernel_rfl
  intro t ht
  have := List.all_eq_true.1 h t ht
  simpa only [Bool.and_eq_true, decide_eq_true_eq] using this
theorem spec_eq (H : Type) : ∀ (ds : List (DataW H)), ds.length = Try.f3.params.toList.length → Rows.fnSetNecksSpec.fn H ds = { results := [.lit (.bool true)], args := ds } := by
  intro ds hd
  have hd : ds.length = 2 := hd
  match ds, hd with
  | [d0, d1], _ => rfl
theorem contract (H : Type) (enc : TypeId × Value → H) (W : World) (base : Nat) (args : Array Value) (ds gs : List (DataW H)) (before : List MemPlace)
    (hval : ∀ (j : Nat) t v, Try.f3.params[j]? = some t → args[j]? = some v → Value.okWide Try.prog W .any base t v)
    (hW : DataW.Whole enc Try.prog Try.f3.params.toList Rows.fnSetNecksSpec.vars false W args.toList ds gs before) :
    Calls Try.prog 3 args W fun e W' => ∃ v, e = .returned v ∧ Rows.fnSetNecksSpec.post enc Try.prog Try.f3 false true false false W args v W' :=
  row_contract (φ := phi) (g := 1224) (n := 20) ok_laws_FnSetNecks rfl rfl (tb := 4) Try.underlying4 (by kernel_rfl) rfl law laid reads spec_eq W base args ds gs before hval hW
theorem lifted (os : Os) (started : os.Started) (H : Type) (enc : TypeId × Value → H) :
    ReturnsInHanded {} Try.checked os 3 .any (Rows.fnSetNecksSpec.pre6 enc Try.prog Try.f3 Rows.fnSetNecksRow.domain false) (Rows.fnSetNecksSpec.post enc Try.prog Try.f3 false true false false) := by
  refine returnsInHanded_of_change (C := Try.checked) own started (by kernel_rfl) Try.func3
    (ChangeSpec.witness6 (enc := enc) (C := Try.checked) false ⟨#[], #[.slice none 0 0, .slice none 0 0], []⟩ 12 (by kernel_rfl) (by kernel_rfl) (by kernel_rfl) (by kernel_rfl)) ?_
  intro W base args ds gs before hval hW _ _
  exact contract H enc W base args ds gs before hval hW
theorem over : Rows.fnSetNecksRow.holds Try.pinned (OpenSpec.ofChange Rows.fnSetNecksSpec) :=
  OpenClaim.holds_of_wide 3 Try.f3 rfl rfl rfl rfl rfl rfl rfl ⟨rfl, rfl, rfl, rfl, rfl⟩ rfl rfl rfl rfl rfl (by kernel_rfl) Try.func3 (by kernel_rfl)
    (of_decide_eq_true (by kernel_rfl)) (by unfold Func.isWrapper; first | (rw [if_pos (by decide +kernel)]; kernel_rfl) | (rw [if_neg (by decide +kernel)]; exact ⟨rfl, rfl⟩))
    (fun os started H enc _ => lifted os started H enc)
/-- The statement. -/
theorem proved : Rows.FnSetNecksSaid := over
end Go.Proofs.Ytmleedejgoeggaa.fnSetNecks
