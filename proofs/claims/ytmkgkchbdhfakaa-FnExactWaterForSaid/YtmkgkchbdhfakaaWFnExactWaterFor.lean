/- The law FnExactWaterFor answers true for every input, whatever it is, and leaves its arguments as they were. Conditions: none. -/
import Derived.Test.YtmkgkchbdhfakaaQFnExactWaterFor
import Derived.Test.YtmkgkchbdhfakaaRows
import Derived.WalkKit
import Derived.ProofKit
import Derived.OpenShut
import Derived.JoinedOf
import Derived.Handed
set_option linter.unusedVariables false
set_option maxRecDepth 100000
namespace Go.Proofs.Ytmkgkchbdhfakaa.fnExactWaterFor
open Go.Ab Go.Ab.P
open Go.ChangeShapes Go.WideShapes Go.ChangeAt Go.RowKit
def phiL : List (Nat × Nat) := [(34, 12), (31, 14), (11, 68), (12, 69), (13, 55), (1, 53), (14, 56), (15, 57), (20, 35), (35, 41), (19, 36), (16, 59), (17, 58), (18, 37), (38, 16), (22, 70), (21, 65), (24, 60), (23, 43), (25, 61), (26, 62), (30, 38), (36, 42), (29, 39), (27, 63), (28, 40), (37, 17), (1221, 5)]
def phi (n : Nat) : Nat := (phiL.lookup n).getD 1000000
theorem hm : Try.prog.follows .mixedOrders = true := by kernel_rfl
theorem ck_laws_szPot : chkFn Try.prog phi 34 laws_szPot_ir = true := by kernel_rfl
theorem ok_laws_szPot : FOk Try.prog phi 34 laws_szPot_c := fn_ok hm (D := laws_szPot_D) DOk.nil ck_laws_szPot _ _ _ _
theorem ck_laws_toPot : chkFn Try.prog phi 31 laws_toPot_ir = true := by kernel_rfl
theorem ok_laws_toPot : FOk Try.prog phi 31 laws_toPot_c := fn_ok hm (D := laws_toPot_D) DOk.nil ck_laws_toPot _ _ _ _
theorem ck_spec_l01Small : chkFn Try.prog phi 11 spec_l01Small_ir = true := by kernel_rfl
theorem ok_spec_l01Small : FOk Try.prog phi 11 spec_l01Small_c := fn_ok hm (D := spec_l01Small_D) DOk.nil ck_spec_l01Small _ _ _ _
theorem ck_spec_l01Digit : chkFn Try.prog phi 12 spec_l01Digit_ir = true := by kernel_rfl
theorem ok_spec_l01Digit : FOk Try.prog phi 12 spec_l01Digit_c := fn_ok hm (D := spec_l01Digit_D) DOk.nil ck_spec_l01Digit _ _ _ _
theorem ck_spec_l01Name : chkFn Try.prog phi 13 spec_l01Name_ir = true := by kernel_rfl
theorem ok_spec_l01Name : FOk Try.prog phi 13 spec_l01Name_c := fn_ok hm (D := spec_l01Name_D) (DOk.cons ok_spec_l01Small (DOk.cons ok_spec_l01Digit DOk.nil)) ck_spec_l01Name _ _ _ _
theorem ck_spec_l00In : chkFn Try.prog phi 1 spec_l00In_ir = true := by kernel_rfl
theorem ok_spec_l00In : FOk Try.prog phi 1 spec_l00In_c := fn_ok hm (D := spec_l00In_D) DOk.nil ck_spec_l00In _ _ _ _
theorem ck_spec_l14Grams : chkFn Try.prog phi 14 spec_l14Grams_ir = true := by kernel_rfl
theorem ok_spec_l14Grams : FOk Try.prog phi 14 spec_l14Grams_c := fn_ok hm (D := spec_l14Grams_D) (DOk.cons ok_spec_l00In DOk.nil) ck_spec_l14Grams _ _ _ _
theorem ck_spec_l14Heat : chkFn Try.prog phi 15 spec_l14Heat_ir = true := by kernel_rfl
theorem ok_spec_l14Heat : FOk Try.prog phi 15 spec_l14Heat_c := fn_ok hm (D := spec_l14Heat_D) (DOk.cons ok_spec_l00In DOk.nil) ck_spec_l14Heat _ _ _ _
theorem ck_spec_l14One : chkFn Try.prog phi 20 spec_l14One_ir = true := by kernel_rfl
theorem ok_spec_l14One : FOk Try.prog phi 20 spec_l14One_c := fn_ok hm (D := spec_l14One_D) (DOk.cons ok_spec_l00In (DOk.cons ok_spec_l01Name (DOk.cons ok_spec_l14Grams (DOk.cons ok_spec_l14Heat DOk.nil)))) ck_spec_l14One _ _ _ _
theorem ck_spec_l14Seconds : chkFn Try.prog phi 35 spec_l14Seconds_ir = true := by kernel_rfl
theorem ok_spec_l14Seconds : FOk Try.prog phi 35 spec_l14Seconds_c := fn_ok hm (D := spec_l14Seconds_D) (DOk.cons ok_spec_l00In DOk.nil) ck_spec_l14Seconds _ _ _ _
theorem ck_spec_l14Room : chkFn Try.prog phi 19 spec_l14Room_ir = true := by kernel_rfl
theorem ok_spec_l14Room : FOk Try.prog phi 19 spec_l14Room_c := fn_ok hm (D := spec_l14Room_D) (DOk.cons ok_spec_l00In DOk.nil) ck_spec_l14Room _ _ _ _
theorem ck_spec_l01Div : chkFn Try.prog phi 16 spec_l01Div_ir = true := by kernel_rfl
theorem ok_spec_l01Div : FOk Try.prog phi 16 spec_l01Div_c := fn_ok hm (D := spec_l01Div_D) DOk.nil ck_spec_l01Div _ _ _ _
theorem ck_spec_l00Max : chkFn Try.prog phi 17 spec_l00Max_ir = true := by kernel_rfl
theorem ok_spec_l00Max : FOk Try.prog phi 17 spec_l00Max_c := fn_ok hm (D := spec_l00Max_D) DOk.nil ck_spec_l00Max _ _ _ _
theorem ck_spec_l14Open : chkFn Try.prog phi 18 spec_l14Open_ir = true := by kernel_rfl
theorem ok_spec_l14Open : FOk Try.prog phi 18 spec_l14Open_c := fn_ok hm (D := spec_l14Open_D) (DOk.cons ok_spec_l01Div (DOk.cons ok_spec_l00Max DOk.nil)) ck_spec_l14Open _ _ _ _
theorem ck_spec_WaterFor : chkFn Try.prog phi 38 spec_WaterFor_ir = true := by kernel_rfl
theorem ok_spec_WaterFor : FOk Try.prog phi 38 spec_WaterFor_c := fn_ok hm (D := spec_WaterFor_D) (DOk.cons ok_spec_l14Open (DOk.cons ok_spec_l14Room (DOk.cons ok_spec_l14One (DOk.cons ok_spec_l14Seconds DOk.nil)))) ck_spec_WaterFor _ _ _ _
theorem ck_impl_isDigit : chkFn Try.prog phi 22 impl_isDigit_ir = true := by kernel_rfl
theorem ok_impl_isDigit : FOk Try.prog phi 22 impl_isDigit_c := fn_ok hm (D := impl_isDigit_D) DOk.nil ck_impl_isDigit _ _ _ _
theorem ck_impl_few : chkFn Try.prog phi 21 impl_few_ir = true := by kernel_rfl
theorem ok_impl_few : FOk Try.prog phi 21 impl_few_c := fn_ok hm (D := impl_few_D) DOk.nil ck_impl_few _ _ _ _
theorem ck_impl_IsName : chkFn Try.prog phi 24 impl_IsName_ir = true := by kernel_rfl
theorem ok_impl_IsName : FOk Try.prog phi 24 impl_IsName_c := fn_ok hm (D := impl_IsName_D) (DOk.cons ok_impl_few (DOk.cons ok_impl_isDigit DOk.nil)) ck_impl_IsName _ _ _ _
theorem ck_impl_within : chkFn Try.prog phi 23 impl_within_ir = true := by kernel_rfl
theorem ok_impl_within : FOk Try.prog phi 23 impl_within_c := fn_ok hm (D := impl_within_D) DOk.nil ck_impl_within _ _ _ _
theorem ck_impl_isGrams : chkFn Try.prog phi 25 impl_isGrams_ir = true := by kernel_rfl
theorem ok_impl_isGrams : FOk Try.prog phi 25 impl_isGrams_c := fn_ok hm (D := impl_isGrams_D) (DOk.cons ok_impl_within DOk.nil) ck_impl_isGrams _ _ _ _
theorem ck_impl_isHeat : chkFn Try.prog phi 26 impl_isHeat_ir = true := by kernel_rfl
theorem ok_impl_isHeat : FOk Try.prog phi 26 impl_isHeat_c := fn_ok hm (D := impl_isHeat_D) (DOk.cons ok_impl_within DOk.nil) ck_impl_isHeat _ _ _ _
theorem ck_impl_Pot_valid : chkFn Try.prog phi 30 impl_Pot_valid_ir = true := by kernel_rfl
theorem ok_impl_Pot_valid : FOk Try.prog phi 30 impl_Pot_valid_c := fn_ok hm (D := impl_Pot_valid_D) (DOk.cons ok_impl_within (DOk.cons ok_impl_IsName (DOk.cons ok_impl_isGrams (DOk.cons ok_impl_isHeat DOk.nil)))) ck_impl_Pot_valid _ _ _ _
theorem ck_impl_isSeconds : chkFn Try.prog phi 36 impl_isSeconds_ir = true := by kernel_rfl
theorem ok_impl_isSeconds : FOk Try.prog phi 36 impl_isSeconds_c := fn_ok hm (D := impl_isSeconds_D) (DOk.cons ok_impl_within DOk.nil) ck_impl_isSeconds _ _ _ _
theorem ck_impl_isRoom : chkFn Try.prog phi 29 impl_isRoom_ir = true := by kernel_rfl
theorem ok_impl_isRoom : FOk Try.prog phi 29 impl_isRoom_c := fn_ok hm (D := impl_isRoom_D) (DOk.cons ok_impl_within DOk.nil) ck_impl_isRoom _ _ _ _
theorem ck_impl_divRound : chkFn Try.prog phi 27 impl_divRound_ir = true := by kernel_rfl
theorem ok_impl_divRound : FOk Try.prog phi 27 impl_divRound_c := fn_ok hm (D := impl_divRound_D) DOk.nil ck_impl_divRound _ _ _ _
theorem ck_impl_Pot_open : chkFn Try.prog phi 28 impl_Pot_open_ir = true := by kernel_rfl
theorem ok_impl_Pot_open : FOk Try.prog phi 28 impl_Pot_open_c := fn_ok hm (D := impl_Pot_open_D) (DOk.cons ok_impl_divRound DOk.nil) ck_impl_Pot_open _ _ _ _
theorem ck_impl_WaterFor : chkFn Try.prog phi 37 impl_WaterFor_ir = true := by kernel_rfl
theorem ok_impl_WaterFor : FOk Try.prog phi 37 impl_WaterFor_c := fn_ok hm (D := impl_WaterFor_D) (DOk.cons ok_impl_Pot_open (DOk.cons ok_impl_isRoom (DOk.cons ok_impl_Pot_valid (DOk.cons ok_impl_isSeconds DOk.nil)))) ck_impl_WaterFor _ _ _ _
theorem ck_laws_FnExactWaterFor : chkFn Try.prog phi 1221 laws_FnExactWaterFor_ir = true := by kernel_rfl
theorem ok_laws_FnExactWaterFor : FOk Try.prog phi 1221 laws_FnExactWaterFor_c := fn_ok hm (D := laws_FnExactWaterFor_D) (DOk.cons ok_laws_toPot (DOk.cons ok_laws_szPot (DOk.cons ok_impl_WaterFor (DOk.cons ok_spec_WaterFor DOk.nil)))) ck_laws_FnExactWaterFor _ _ _ _
theorem law : ∀ x, wfU laws_FnExactWaterFor_c.ps x → ∃ y, laws_FnExactWaterFor_c.f x = some y ∧ resA laws_FnExactWaterFor_c y = ([A.bool true], []) := fun x hx => ⟨true, (laws_FnExactWaterFor_true x.1 x.2.1 x.2.2.1 hx.1 hx.2.1 hx.2.2.1), rfl⟩
theorem own : ownKnob Try.prog.godebug = none := by kernel_rfl
theorem laid : laidOutB Try.prog = true := by kernel_rfl
theorem reads : ∀ t ∈ Try.f5.params.toList, Try.prog.readableRec t = true ∧ t < Try.prog.types.size := by
  have h : (Try.f5.params.toList.all fun t => Try.prog.readableRec t && decide (t < Try.prog.types.size)) = true := by kernel_rfl
  intro t ht
  have := List.all_eq_true.1 h t ht
  simpa only [Bool.and_eq_true, decide_eq_true_eq] using this
theorem spec_eq (H : Type) : ∀ (ds : List (DataW H)), ds.length = Try.f5.params.toList.length → Rows.fnExactWaterForSpec.fn H ds = { results := [.lit (.bool true)], args := ds } := by
  intro ds hd
  have hd : ds.length = 3 := hd
  match ds, hd with
  | [d0, d1, d2], _ => rfl
theorem contract (H : Type) (enc : TypeId × Value → H) (W : World) (base : Nat) (args : Array Value) (ds gs : List (DataW H)) (before : List MemPlace)
    (hval : ∀ (j : Nat) t v, Try.f5.params[j]? = some t → args[j]? = some v → Value.okWide Try.prog W .any base t v)
    (hW : DataW.Whole enc Try.prog Try.f5.params.toList Rows.fnExactWaterForSpec.vars false W args.toList ds gs before) :
    Calls Try.prog 5 args W fun e W' => ∃ v, e = .returned v ∧ Rows.fnExactWaterForSpec.post enc Try.prog Try.f5 false true false false W args v W' :=
  row_contract (φ := phi) (g := 1221) (n := 20) ok_laws_FnExactWaterFor rfl rfl (tb := 4) Try.underlying4 (by kernel_rfl) rfl law laid reads spec_eq W base args ds gs before hval hW
theorem lifted (os : Os) (started : os.Started) (H : Type) (enc : TypeId × Value → H) :
    ReturnsInHanded {} Try.checked os 5 .any (Rows.fnExactWaterForSpec.pre6 enc Try.prog Try.f5 Rows.fnExactWaterForRow.domain false) (Rows.fnExactWaterForSpec.post enc Try.prog Try.f5 false true false false) := by
  refine returnsInHanded_of_change (C := Try.checked) own started (by kernel_rfl) Try.func5
    (ChangeSpec.witness6 (enc := enc) (C := Try.checked) false ⟨#[], #[.agg #[.string ⟨#[]⟩, .int .i64 0, .int .i64 0, .int .i64 0, .int .i64 0], .int .i64 0, .int .i64 0], []⟩ 12 (by kernel_rfl) (by kernel_rfl) (by kernel_rfl) (by kernel_rfl)) ?_
  intro W base args ds gs before hval hW _ _
  exact contract H enc W base args ds gs before hval hW
theorem over : Rows.fnExactWaterForRow.holds Try.pinned (OpenSpec.ofChange Rows.fnExactWaterForSpec) :=
  OpenClaim.holds_of_wide 5 Try.f5 rfl rfl rfl rfl rfl rfl rfl ⟨rfl, rfl, rfl, rfl, rfl⟩ rfl rfl rfl rfl rfl (by kernel_rfl) Try.func5 (by kernel_rfl)
    (of_decide_eq_true (by kernel_rfl)) (by unfold Func.isWrapper; first | (rw [if_pos (by decide +kernel)]; kernel_rfl) | (rw [if_neg (by decide +kernel)]; exact ⟨rfl, rfl⟩))
    (fun os started H enc _ => lifted os started H enc)
/-- The statement. -/
theorem proved : Rows.FnExactWaterForSaid := over
end Go.Proofs.Ytmkgkchbdhfakaa.fnExactWaterFor
