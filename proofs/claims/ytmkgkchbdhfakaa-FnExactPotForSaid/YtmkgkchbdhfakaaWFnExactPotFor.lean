/- The law FnExactPotFor answers true for every input, whatever it is, and leaves its arguments as they were. Conditions: none. -/
import Derived.Test.YtmkgkchbdhfakaaQFnExactPotFor
import Derived.Test.YtmkgkchbdhfakaaRows
import Derived.WalkKit
import Derived.ProofKit
import Derived.OpenShut
import Derived.JoinedOf
import Derived.Handed
set_option linter.unusedVariables false
set_option maxRecDepth 100000
namespace Go.Proofs.Ytmkgkchbdhfakaa.fnExactPotFor
open Go.Ab Go.Ab.P
open Go.ChangeShapes Go.WideShapes Go.ChangeAt Go.RowKit
def phiL : List (Nat × Nat) := [(34, 12), (63, 27), (31, 14), (59, 29), (11, 68), (12, 69), (13, 55), (1, 53), (14, 56), (15, 57), (20, 35), (53, 46), (52, 47), (35, 41), (19, 36), (16, 59), (17, 58), (50, 64), (51, 48), (18, 37), (62, 28), (22, 70), (21, 65), (24, 60), (23, 43), (25, 61), (26, 62), (30, 38), (57, 49), (56, 50), (36, 42), (29, 39), (27, 63), (54, 66), (55, 51), (28, 40), (61, 30), (58, 52), (60, 31), (1222, 7)]
def phi (n : Nat) : Nat := (phiL.lookup n).getD 1000000
theorem hm : Try.prog.follows .mixedOrders = true := by kernel_rfl
theorem ck_laws_szPot : chkFn Try.prog phi 34 laws_szPot_ir = true := by kernel_rfl
theorem ok_laws_szPot : FOk Try.prog phi 34 laws_szPot_c := fn_ok hm (D := laws_szPot_D) DOk.nil ck_laws_szPot _ _ _ _
theorem ck_laws_szPotS : chkFn Try.prog phi 63 laws_szPotS_ir = true := by kernel_rfl
theorem ok_laws_szPotS : FOk Try.prog phi 63 laws_szPotS_c := fn_ok hm (D := laws_szPotS_D) (DOk.cons ok_laws_szPot DOk.nil) ck_laws_szPotS _ _ _ _
theorem ck_laws_toPot : chkFn Try.prog phi 31 laws_toPot_ir = true := by kernel_rfl
theorem ok_laws_toPot : FOk Try.prog phi 31 laws_toPot_c := fn_ok hm (D := laws_toPot_D) DOk.nil ck_laws_toPot _ _ _ _
theorem ck_laws_toPotS : chkFn Try.prog phi 59 laws_toPotS_ir = true := by kernel_rfl
theorem ok_laws_toPotS : FOk Try.prog phi 59 laws_toPotS_c := fn_ok hm (D := laws_toPotS_D) (DOk.cons ok_laws_toPot DOk.nil) ck_laws_toPotS _ _ _ _
theorem ck_spec_l01Small : chkFn Try.prog phi 11 spec_l01Small_ir = true := by kernel_rfl
theorem ok_spec_l01Small : FOk Try.prog phi 11 spec_l01Small_c := fn_ok hm (D := spec_l01Small_D) DOk.nil ck_spec_l01Small _ _ _ _
theorem ck_spec_l01Digit : chkFn Try.prog phi 12 spec_l01Digit_ir = true := by kernel_rfl
theorem ok_spec_l01Digit : FOk Try.prog phi 12 spec_l01Digit_c := fn_ok hm (D := spec_l01Digit_D) DOk.nil ck_spec_l01Digit _ _ _ _
theorem ck_spec_l01Name : chkFn Try.prog phi 13 spec_l01Name_ir = true := by kernel_rfl
theorem ok_spec_l01Name : FOk Try.prog phi 13 spec_l01Name_c := fn_ok hm (D := spec_l01Name_D) (DOk.cons ok_spec_l01Small (DOk.cons ok_spec_l01Digit DOk.nil)) ck_spec_l01Name _ _ _ _
theorem ck_spec_l00In : chkFn Try.prog phi 1 spec_l00In_ir = true := by kernel_rfl
theorem ok_spec_l00In : FOk Try.prog phi 1 spec_l00In_c := fn_ok hm (D := spec_l00In_D) DOk.nil ck_spec_l00In _ _ _ _
theorem ck_spec_l14Grams : chkFn Try.prog phi 14 spec_l14Grams_ir = true := by kernel_rfl
theorem ok_spec_l14Grams : FOk Try.prog phi 14 spec_l14Grams_c := fn_ok hm (D := spec_l14Grams_D) (DOk.cons ok_spec_l00In DOk.nil) ck_spec_l14Grams _ _ _ _
theorem ck_spec_l14Heat : chkFn Try.prog phi 15 spec_l14Heat_ir = true := by kernel_rfl
theorem ok_spec_l14Heat : FOk Try.prog phi 15 spec_l14Heat_c := fn_ok hm (D := spec_l14Heat_D) (DOk.cons ok_spec_l00In DOk.nil) ck_spec_l14Heat _ _ _ _
theorem ck_spec_l14One : chkFn Try.prog phi 20 spec_l14One_ir = true := by kernel_rfl
theorem ok_spec_l14One : FOk Try.prog phi 20 spec_l14One_c := fn_ok hm (D := spec_l14One_D) (DOk.cons ok_spec_l00In (DOk.cons ok_spec_l01Name (DOk.cons ok_spec_l14Grams (DOk.cons ok_spec_l14Heat DOk.nil)))) ck_spec_l14One _ _ _ _
theorem ck_spec_l14Ok : chkFn Try.prog phi 53 spec_l14Ok_ir = true := by kernel_rfl
theorem ok_spec_l14Ok : FOk Try.prog phi 53 spec_l14Ok_c := fn_ok hm (D := spec_l14Ok_D) (DOk.cons ok_spec_l14One DOk.nil) ck_spec_l14Ok _ _ _ _
theorem ck_spec_l14Joint : chkFn Try.prog phi 52 spec_l14Joint_ir = true := by kernel_rfl
theorem ok_spec_l14Joint : FOk Try.prog phi 52 spec_l14Joint_c := fn_ok hm (D := spec_l14Joint_D) (DOk.cons ok_spec_l00In DOk.nil) ck_spec_l14Joint _ _ _ _
theorem ck_spec_l14Seconds : chkFn Try.prog phi 35 spec_l14Seconds_ir = true := by kernel_rfl
theorem ok_spec_l14Seconds : FOk Try.prog phi 35 spec_l14Seconds_c := fn_ok hm (D := spec_l14Seconds_D) (DOk.cons ok_spec_l00In DOk.nil) ck_spec_l14Seconds _ _ _ _
theorem ck_spec_l14Room : chkFn Try.prog phi 19 spec_l14Room_ir = true := by kernel_rfl
theorem ok_spec_l14Room : FOk Try.prog phi 19 spec_l14Room_c := fn_ok hm (D := spec_l14Room_D) (DOk.cons ok_spec_l00In DOk.nil) ck_spec_l14Room _ _ _ _
theorem ck_spec_l01Div : chkFn Try.prog phi 16 spec_l01Div_ir = true := by kernel_rfl
theorem ok_spec_l01Div : FOk Try.prog phi 16 spec_l01Div_c := fn_ok hm (D := spec_l01Div_D) DOk.nil ck_spec_l01Div _ _ _ _
theorem ck_spec_l00Max : chkFn Try.prog phi 17 spec_l00Max_ir = true := by kernel_rfl
theorem ok_spec_l00Max : FOk Try.prog phi 17 spec_l00Max_c := fn_ok hm (D := spec_l00Max_D) DOk.nil ck_spec_l00Max _ _ _ _
theorem ck_spec_l14Strong : chkFn Try.prog phi 50 spec_l14Strong_ir = true := by kernel_rfl
theorem ok_spec_l14Strong : FOk Try.prog phi 50 spec_l14Strong_c := fn_ok hm (D := spec_l14Strong_D) (DOk.cons ok_spec_l01Div (DOk.cons ok_spec_l00Max DOk.nil)) ck_spec_l14Strong _ _ _ _
theorem ck_spec_l14Holds : chkFn Try.prog phi 51 spec_l14Holds_ir = true := by kernel_rfl
theorem ok_spec_l14Holds : FOk Try.prog phi 51 spec_l14Holds_c := fn_ok hm (D := spec_l14Holds_D) (DOk.cons ok_spec_l14Strong DOk.nil) ck_spec_l14Holds _ _ _ _
theorem ck_spec_l14Open : chkFn Try.prog phi 18 spec_l14Open_ir = true := by kernel_rfl
theorem ok_spec_l14Open : FOk Try.prog phi 18 spec_l14Open_c := fn_ok hm (D := spec_l14Open_D) (DOk.cons ok_spec_l01Div (DOk.cons ok_spec_l00Max DOk.nil)) ck_spec_l14Open _ _ _ _
theorem ck_spec_PotFor : chkFn Try.prog phi 62 spec_PotFor_ir = true := by kernel_rfl
theorem ok_spec_PotFor : FOk Try.prog phi 62 spec_PotFor_c := fn_ok hm (D := spec_PotFor_D) (DOk.cons ok_spec_l14Open (DOk.cons ok_spec_l14Room (DOk.cons ok_spec_l14Seconds (DOk.cons ok_spec_l14Holds (DOk.cons ok_spec_l14Joint (DOk.cons ok_spec_l14Ok DOk.nil)))))) ck_spec_PotFor _ _ _ _
theorem ck_impl_isDigit : chkFn Try.prog phi 22 impl_isDigit_ir = true := by kernel_rfl
theorem ok_impl_isDigit : FOk Try.prog phi 22 impl_isDigit_c := fn_ok hm (D := impl_isDigit_D) DOk.nil ck_impl_isDigit _ _ _ _
theorem ck_impl_few : chkFn Try.prog phi 21 impl_few_ir = true := by kernel_rfl
theorem ok_impl_few : FOk Try.prog phi 21 impl_few_c := fn_ok hm (D := impl_few_D) DOk.nil ck_impl_few _ _ _ _
theorem ck_impl_IsName : chkFn Try.prog phi 24 impl_IsName_ir = true := by kernel_rfl
theorem ok_impl_IsName : FOk Try.prog phi 24 impl_IsName_c := fn_ok hm (D := impl_IsName_D) (DOk.cons ok_impl_few (DOk.cons ok_impl_isDigit DOk.nil)) ck_impl_IsName _ _ _ _
theorem ck_impl_within : chkFn Try.prog phi 23 impl_within_ir = true := by kernel_rfl
theorem ok_impl_within : FOk Try.prog phi 23 impl_within_c := fn_ok hm (D := impl_within_D) DOk.nil ck_impl_within _ _ _ _
theorem ck_impl_isGrams : chkFn Try.prog phi 25 impl_isGrams_ir = true := by kernel_rfl
theorem ok_impl_isGrams : FOk Try.prog phi 25 impl_isGrams_c := fn_ok hm (D := impl_isGrams_D) (DOk.cons ok_impl_within DOk.nil) ck_impl_isGrams _ _ _ _
theorem ck_impl_isHeat : chkFn Try.prog phi 26 impl_isHeat_ir = true := by kernel_rfl
theorem ok_impl_isHeat : FOk Try.prog phi 26 impl_isHeat_c := fn_ok hm (D := impl_isHeat_D) (DOk.cons ok_impl_within DOk.nil) ck_impl_isHeat _ _ _ _
theorem ck_impl_Pot_valid : chkFn Try.prog phi 30 impl_Pot_valid_ir = true := by kernel_rfl
theorem ok_impl_Pot_valid : FOk Try.prog phi 30 impl_Pot_valid_c := fn_ok hm (D := impl_Pot_valid_D) (DOk.cons ok_impl_within (DOk.cons ok_impl_IsName (DOk.cons ok_impl_isGrams (DOk.cons ok_impl_isHeat DOk.nil)))) ck_impl_Pot_valid _ _ _ _
theorem ck_impl_ValidPots : chkFn Try.prog phi 57 impl_ValidPots_ir = true := by kernel_rfl
theorem ok_impl_ValidPots : FOk Try.prog phi 57 impl_ValidPots_c := fn_ok hm (D := impl_ValidPots_D) (DOk.cons ok_impl_few (DOk.cons ok_impl_Pot_valid DOk.nil)) ck_impl_ValidPots _ _ _ _
theorem ck_impl_isJoint : chkFn Try.prog phi 56 impl_isJoint_ir = true := by kernel_rfl
theorem ok_impl_isJoint : FOk Try.prog phi 56 impl_isJoint_c := fn_ok hm (D := impl_isJoint_D) (DOk.cons ok_impl_within DOk.nil) ck_impl_isJoint _ _ _ _
theorem ck_impl_isSeconds : chkFn Try.prog phi 36 impl_isSeconds_ir = true := by kernel_rfl
theorem ok_impl_isSeconds : FOk Try.prog phi 36 impl_isSeconds_c := fn_ok hm (D := impl_isSeconds_D) (DOk.cons ok_impl_within DOk.nil) ck_impl_isSeconds _ _ _ _
theorem ck_impl_isRoom : chkFn Try.prog phi 29 impl_isRoom_ir = true := by kernel_rfl
theorem ok_impl_isRoom : FOk Try.prog phi 29 impl_isRoom_c := fn_ok hm (D := impl_isRoom_D) (DOk.cons ok_impl_within DOk.nil) ck_impl_isRoom _ _ _ _
theorem ck_impl_divRound : chkFn Try.prog phi 27 impl_divRound_ir = true := by kernel_rfl
theorem ok_impl_divRound : FOk Try.prog phi 27 impl_divRound_c := fn_ok hm (D := impl_divRound_D) DOk.nil ck_impl_divRound _ _ _ _
theorem ck_impl_Pot_strength : chkFn Try.prog phi 54 impl_Pot_strength_ir = true := by kernel_rfl
theorem ok_impl_Pot_strength : FOk Try.prog phi 54 impl_Pot_strength_c := fn_ok hm (D := impl_Pot_strength_D) (DOk.cons ok_impl_divRound DOk.nil) ck_impl_Pot_strength _ _ _ _
theorem ck_impl_Pot_holdsJoint : chkFn Try.prog phi 55 impl_Pot_holdsJoint_ir = true := by kernel_rfl
theorem ok_impl_Pot_holdsJoint : FOk Try.prog phi 55 impl_Pot_holdsJoint_c := fn_ok hm (D := impl_Pot_holdsJoint_D) (DOk.cons ok_impl_Pot_strength DOk.nil) ck_impl_Pot_holdsJoint _ _ _ _
theorem ck_impl_Pot_open : chkFn Try.prog phi 28 impl_Pot_open_ir = true := by kernel_rfl
theorem ok_impl_Pot_open : FOk Try.prog phi 28 impl_Pot_open_c := fn_ok hm (D := impl_Pot_open_D) (DOk.cons ok_impl_divRound DOk.nil) ck_impl_Pot_open _ _ _ _
theorem ck_impl_PotFor : chkFn Try.prog phi 61 impl_PotFor_ir = true := by kernel_rfl
theorem ok_impl_PotFor : FOk Try.prog phi 61 impl_PotFor_c := fn_ok hm (D := impl_PotFor_D) (DOk.cons ok_impl_Pot_open (DOk.cons ok_impl_isRoom (DOk.cons ok_impl_isSeconds (DOk.cons ok_impl_Pot_holdsJoint (DOk.cons ok_impl_isJoint (DOk.cons ok_impl_ValidPots DOk.nil)))))) ck_impl_PotFor _ _ _ _
theorem ck_laws_eqPot : chkFn Try.prog phi 58 laws_eqPot_ir = true := by kernel_rfl
theorem ok_laws_eqPot : FOk Try.prog phi 58 laws_eqPot_c := fn_ok hm (D := laws_eqPot_D) DOk.nil ck_laws_eqPot _ _ _ _
theorem ck_laws_eqPotS : chkFn Try.prog phi 60 laws_eqPotS_ir = true := by kernel_rfl
theorem ok_laws_eqPotS : FOk Try.prog phi 60 laws_eqPotS_c := fn_ok hm (D := laws_eqPotS_D) (DOk.cons ok_laws_eqPot DOk.nil) ck_laws_eqPotS _ _ _ _
theorem ck_laws_FnExactPotFor : chkFn Try.prog phi 1222 laws_FnExactPotFor_ir = true := by kernel_rfl
theorem ok_laws_FnExactPotFor : FOk Try.prog phi 1222 laws_FnExactPotFor_c := fn_ok hm (D := laws_FnExactPotFor_D) (DOk.cons ok_laws_toPotS (DOk.cons ok_laws_eqPotS (DOk.cons ok_impl_PotFor (DOk.cons ok_spec_PotFor (DOk.cons ok_laws_szPotS DOk.nil))))) ck_laws_FnExactPotFor _ _ _ _
theorem law : ∀ x, wfU laws_FnExactPotFor_c.ps x → ∃ y, laws_FnExactPotFor_c.f x = some y ∧ resA laws_FnExactPotFor_c y = ([A.bool true], []) := fun x hx => ⟨true, (laws_FnExactPotFor_true x.1 x.2.1 x.2.2.1 x.2.2.2.1 x.2.2.2.2.1 hx.1 hx.2.1 hx.2.2.1 hx.2.2.2.1 hx.2.2.2.2.1), rfl⟩
theorem own : ownKnob Try.prog.godebug = none := by kernel_rfl
theorem laid : laidOutB Try.prog = true := by kernel_rfl
theorem reads : ∀ t ∈ Try.f7.params.toList, Try.prog.readableRec t = true ∧ t < Try.prog.types.size := by
  have h : (Try.f7.params.toList.all fun t => Try.prog.readableRec t && decide (t < Try.prog.types.size)) = true := by kernel_rfl
  intro t ht
  have := List.all_eq_true.1 h t ht
  simpa only [Bool.and_eq_true, decide_eq_true_eq] using this
theorem spec_eq (H : Type) : ∀ (ds : List (DataW H)), ds.length = Try.f7.params.toList.length → Rows.fnExactPotForSpec.fn H ds = { results := [.lit (.bool true)], args := ds } := by
  intro ds hd
  have hd : ds.length = 5 := hd
  match ds, hd with
  | [d0, d1, d2, d3, d4], _ => rfl
theorem contract (H : Type) (enc : TypeId × Value → H) (W : World) (base : Nat) (args : Array Value) (ds gs : List (DataW H)) (before : List MemPlace)
    (hval : ∀ (j : Nat) t v, Try.f7.params[j]? = some t → args[j]? = some v → Value.okWide Try.prog W .any base t v)
    (hW : DataW.Whole enc Try.prog Try.f7.params.toList Rows.fnExactPotForSpec.vars false W args.toList ds gs before) :
    Calls Try.prog 7 args W fun e W' => ∃ v, e = .returned v ∧ Rows.fnExactPotForSpec.post enc Try.prog Try.f7 false true false false W args v W' :=
  row_contract (φ := phi) (g := 1222) (n := 20) ok_laws_FnExactPotFor rfl rfl (tb := 4) Try.underlying4 (by kernel_rfl) rfl law laid reads spec_eq W base args ds gs before hval hW
theorem lifted (os : Os) (started : os.Started) (H : Type) (enc : TypeId × Value → H) :
    ReturnsInHanded {} Try.checked os 7 .any (Rows.fnExactPotForSpec.pre6 enc Try.prog Try.f7 Rows.fnExactPotForRow.domain false) (Rows.fnExactPotForSpec.post enc Try.prog Try.f7 false true false false) := by
  refine returnsInHanded_of_change (C := Try.checked) own started (by kernel_rfl) Try.func7
    (ChangeSpec.witness6 (enc := enc) (C := Try.checked) false ⟨#[], #[.slice none 0 0, .int .i64 0, .int .i64 0, .int .i64 0, .int .i64 0], []⟩ 12 (by kernel_rfl) (by kernel_rfl) (by kernel_rfl) (by kernel_rfl)) ?_
  intro W base args ds gs before hval hW _ _
  exact contract H enc W base args ds gs before hval hW
theorem over : Rows.fnExactPotForRow.holds Try.pinned (OpenSpec.ofChange Rows.fnExactPotForSpec) :=
  OpenClaim.holds_of_wide 7 Try.f7 rfl rfl rfl rfl rfl rfl rfl ⟨rfl, rfl, rfl, rfl, rfl⟩ rfl rfl rfl rfl rfl (by kernel_rfl) Try.func7 (by kernel_rfl)
    (of_decide_eq_true (by kernel_rfl)) (by unfold Func.isWrapper; first | (rw [if_pos (by decide +kernel)]; kernel_rfl) | (rw [if_neg (by decide +kernel)]; exact ⟨rfl, rfl⟩))
    (fun os started H enc _ => lifted os started H enc)
/-- The statement. -/
theorem proved : Rows.FnExactPotForSaid := over
end Go.Proofs.Ytmkgkchbdhfakaa.fnExactPotFor
