/- The law FnPots answers true for every input, whatever it is, and leaves its arguments as they were. Conditions: none. -/
import Derived.Test.YtpokgomeahjacaaQFnPots
import Derived.Test.YtpokgomeahjacaaRows
import Derived.Test.YtpokgomeahjacaaL5
import Derived.WalkKit
import Derived.ProofKit
import Derived.OpenShut
import Derived.JoinedOf
import Derived.Handed
set_option linter.unusedVariables false
set_option maxRecDepth 100000
namespace Go.Proofs.Ytpokgomeahjacaa.fnPots
open Go.Ab Go.Ab.P
open Go.ChangeShapes Go.WideShapes Go.ChangeAt Go.RowKit
def phiL : List (Nat × Nat) := [(76,6),(441,39),(847,114),(463,94),(642,92),(558,77),(445,46),(559,76),(726,103),(553,67),(552,68),(469,41),(180,28),(22,113),(21,97),(24,80),(23,43),(25,105),(26,112),(30,79),(57,69),(556,70),(555,71),(624,98),(27,48),(54,106),(554,72),(179,29),(4,73),(178,30),(176,31),(11,117),(12,118),(13,107),(1,100),(14,108),(15,109),(20,74),(16,111),(17,110),(50,75),(177,32),(557,78),(175,33),(174,34),(563,81),(562,82),(561,83),(560,84),(173,35),(56,85),(36,86),(29,87),(55,88),(28,89),(61,36),(172,37),(19,90),(18,91),(33,38),(1256,5)]
def phi (n : Nat) : Nat := (phiL.lookup n).getD 1000000
theorem hm : Try.prog.follows .mixedOrders = true := by kernel_rfl
theorem ok_laws_b10Long : FOk Try.prog phi 76 laws_b10Long_c := fn_ok hm (D := laws_b10Long_D) DOk.nil (by kernel_rfl) _ _ _ _
theorem ok_spec_l00From : FOk Try.prog phi 441 spec_l00From_c := fn_ok hm (D := spec_l00From_D) DOk.nil (by kernel_rfl) _ _ _ _
theorem ok_spec_l00Src_next : FOk Try.prog phi 847 spec_l00Src_next_c := fn_ok hm (D := spec_l00Src_next_D) DOk.nil (by kernel_rfl) _ _ _ _
theorem ok_spec_l00Src_pick : FOk Try.prog phi 463 spec_l00Src_pick_c := fn_ok hm (D := spec_l00Src_pick_D) (DOk.cons ok_spec_l00Src_next DOk.nil) (by kernel_rfl) _ _ _ _
theorem ok_spec_l00Src_one : FOk Try.prog phi 642 spec_l00Src_one_c := fn_ok hm (D := spec_l00Src_one_D) (DOk.cons ok_spec_l00Src_pick DOk.nil) (by kernel_rfl) _ _ _ _
theorem ok_spec_l14DrawOne : FOk Try.prog phi 558 spec_l14DrawOne_c := fn_ok hm (D := spec_l14DrawOne_D) (DOk.cons ok_spec_l00Src_pick DOk.nil) (by kernel_rfl) _ _ _ _
theorem ok_spec_l00Src_among : FOk Try.prog phi 445 spec_l00Src_among_c := fn_ok hm (D := spec_l00Src_among_D) (DOk.cons ok_spec_l00Src_pick DOk.nil) (by kernel_rfl) _ _ _ _
theorem ok_spec_l14Bent : FOk Try.prog phi 559 spec_l14Bent_c := fn_ok hm (D := spec_l14Bent_D) (DOk.cons ok_spec_l00Src_among (DOk.cons ok_spec_l00Src_pick DOk.nil)) (by kernel_rfl) _ _ _ _
theorem ok_spec_l01Dec : FOk Try.prog phi 726 spec_l01Dec_c := fn_ok hm (D := spec_l01Dec_D) DOk.nil (by kernel_rfl) _ _ _ _
theorem ok_spec_l14Draw : FOk Try.prog phi 553 spec_l14Draw_c := fn_ok hm (D := spec_l14Draw_D) (DOk.cons ok_spec_l00Src_among (DOk.cons ok_spec_l00Src_pick (DOk.cons ok_spec_l14DrawOne (DOk.cons ok_spec_l14Bent (DOk.cons ok_spec_l00Src_one (DOk.cons ok_spec_l01Dec DOk.nil)))))) (by kernel_rfl) _ _ _ _
theorem ok_spec_l14DrawNeeds : FOk Try.prog phi 552 spec_l14DrawNeeds_c := fn_ok hm (D := spec_l14DrawNeeds_D) (DOk.cons ok_spec_l00Src_among (DOk.cons ok_spec_l00Src_pick DOk.nil)) (by kernel_rfl) _ _ _ _
theorem ok_spec_l06DrawBudget : FOk Try.prog phi 469 spec_l06DrawBudget_c := fn_ok hm (D := spec_l06DrawBudget_D) (DOk.cons ok_spec_l00Src_among DOk.nil) (by kernel_rfl) _ _ _ _
theorem ok_spec_DrawGlueJoints : FOk Try.prog phi 180 spec_DrawGlueJoints_c := fn_ok hm (D := spec_DrawGlueJoints_D) (DOk.cons ok_spec_l00From (DOk.cons ok_spec_l06DrawBudget (DOk.cons ok_spec_l14DrawNeeds (DOk.cons ok_spec_l14Draw DOk.nil)))) (by kernel_rfl) _ _ _ _
theorem ok_impl_isDigit : FOk Try.prog phi 22 impl_isDigit_c := fn_ok hm (D := impl_isDigit_D) DOk.nil (by kernel_rfl) _ _ _ _
theorem ok_impl_few : FOk Try.prog phi 21 impl_few_c := fn_ok hm (D := impl_few_D) DOk.nil (by kernel_rfl) _ _ _ _
theorem ok_impl_IsName : FOk Try.prog phi 24 impl_IsName_c := fn_ok hm (D := impl_IsName_D) (DOk.cons ok_impl_few (DOk.cons ok_impl_isDigit DOk.nil)) (by kernel_rfl) _ _ _ _
theorem ok_impl_within : FOk Try.prog phi 23 impl_within_c := fn_ok hm (D := impl_within_D) DOk.nil (by kernel_rfl) _ _ _ _
theorem ok_impl_isGrams : FOk Try.prog phi 25 impl_isGrams_c := fn_ok hm (D := impl_isGrams_D) (DOk.cons ok_impl_within DOk.nil) (by kernel_rfl) _ _ _ _
theorem ok_impl_isHeat : FOk Try.prog phi 26 impl_isHeat_c := fn_ok hm (D := impl_isHeat_D) (DOk.cons ok_impl_within DOk.nil) (by kernel_rfl) _ _ _ _
theorem ok_impl_Pot_valid : FOk Try.prog phi 30 impl_Pot_valid_c := fn_ok hm (D := impl_Pot_valid_D) (DOk.cons ok_impl_within (DOk.cons ok_impl_IsName (DOk.cons ok_impl_isGrams (DOk.cons ok_impl_isHeat DOk.nil)))) (by kernel_rfl) _ _ _ _
theorem ok_impl_ValidPots : FOk Try.prog phi 57 impl_ValidPots_c := fn_ok hm (D := impl_ValidPots_D) (DOk.cons ok_impl_few (DOk.cons ok_impl_Pot_valid DOk.nil)) (by kernel_rfl) _ _ _ _
theorem ok_impl_areNeeds : FOk Try.prog phi 556 impl_areNeeds_c := fn_ok hm (D := impl_areNeeds_D) (DOk.cons ok_impl_few (DOk.cons ok_impl_isGrams DOk.nil)) (by kernel_rfl) _ _ _ _
theorem ok_impl_contents : FOk Try.prog phi 555 impl_contents_c := fn_ok hm (D := impl_contents_D) DOk.nil (by kernel_rfl) _ _ _ _
theorem ok_impl_clone_int64_ : FOk Try.prog phi 624 impl_clone_int64__c := fn_ok hm (D := impl_clone_int64__D) DOk.nil (by kernel_rfl) _ _ _ _
theorem ok_impl_divRound : FOk Try.prog phi 27 impl_divRound_c := fn_ok hm (D := impl_divRound_D) DOk.nil (by kernel_rfl) _ _ _ _
theorem ok_impl_Pot_strength : FOk Try.prog phi 54 impl_Pot_strength_c := fn_ok hm (D := impl_Pot_strength_D) (DOk.cons ok_impl_divRound DOk.nil) (by kernel_rfl) _ _ _ _
theorem ck_impl_gluing_search : chkFn Try.prog phi 554 impl_gluing_search_ir = true := by kernel_rfl
theorem ok_impl_gluing_search_N : ∀ n,FOk Try.prog phi 554 (impl_gluing_search_N n)
 | 0 => FOk.none (fn_ok hm (D := []) DOk.nil ck_impl_gluing_search [] [] [] []).1
 | n + 1 => by rw [impl_gluing_search_N_eq]; exact fn_ok hm (D := impl_gluing_search_D n) (DOk.cons ok_impl_Pot_strength (DOk.cons (ok_impl_gluing_search_N n) (DOk.cons ok_impl_clone_int64_ DOk.nil))) ck_impl_gluing_search _ _ _ _
theorem ok_impl_gluing_search : FOk Try.prog phi 554 impl_gluing_search_c := ok_impl_gluing_search_N 1000
theorem ok_impl_GlueJoints : FOk Try.prog phi 179 impl_GlueJoints_c := fn_ok hm (D := impl_GlueJoints_D) (DOk.cons ok_impl_within (DOk.cons ok_impl_ValidPots (DOk.cons ok_impl_gluing_search (DOk.cons ok_impl_contents (DOk.cons ok_impl_areNeeds DOk.nil))))) (by kernel_rfl) _ _ _ _
theorem ok_impl_at : FOk Try.prog phi 4 impl_at_c := fn_ok hm (D := impl_at_D) DOk.nil (by kernel_rfl) _ _ _ _
theorem ok_impl_SpillOf : FOk Try.prog phi 178 impl_SpillOf_c := fn_ok hm (D := impl_SpillOf_D) (DOk.cons ok_impl_at (DOk.cons ok_impl_ValidPots (DOk.cons ok_impl_contents (DOk.cons ok_impl_areNeeds DOk.nil)))) (by kernel_rfl) _ _ _ _
theorem ok_laws_b10Sum : FOk Try.prog phi 176 laws_b10Sum_c := fn_ok hm (D := laws_b10Sum_D) DOk.nil (by kernel_rfl) _ _ _ _
theorem ok_spec_l01Small : FOk Try.prog phi 11 spec_l01Small_c := fn_ok hm (D := spec_l01Small_D) DOk.nil (by kernel_rfl) _ _ _ _
theorem ok_spec_l01Digit : FOk Try.prog phi 12 spec_l01Digit_c := fn_ok hm (D := spec_l01Digit_D) DOk.nil (by kernel_rfl) _ _ _ _
theorem ok_spec_l01Name : FOk Try.prog phi 13 spec_l01Name_c := fn_ok hm (D := spec_l01Name_D) (DOk.cons ok_spec_l01Small (DOk.cons ok_spec_l01Digit DOk.nil)) (by kernel_rfl) _ _ _ _
theorem ok_spec_l00In : FOk Try.prog phi 1 spec_l00In_c := fn_ok hm (D := spec_l00In_D) DOk.nil (by kernel_rfl) _ _ _ _
theorem ok_spec_l14Grams : FOk Try.prog phi 14 spec_l14Grams_c := fn_ok hm (D := spec_l14Grams_D) (DOk.cons ok_spec_l00In DOk.nil) (by kernel_rfl) _ _ _ _
theorem ok_spec_l14Heat : FOk Try.prog phi 15 spec_l14Heat_c := fn_ok hm (D := spec_l14Heat_D) (DOk.cons ok_spec_l00In DOk.nil) (by kernel_rfl) _ _ _ _
theorem ok_spec_l14One : FOk Try.prog phi 20 spec_l14One_c := fn_ok hm (D := spec_l14One_D) (DOk.cons ok_spec_l00In (DOk.cons ok_spec_l01Name (DOk.cons ok_spec_l14Grams (DOk.cons ok_spec_l14Heat DOk.nil)))) (by kernel_rfl) _ _ _ _
theorem ok_spec_l01Div : FOk Try.prog phi 16 spec_l01Div_c := fn_ok hm (D := spec_l01Div_D) DOk.nil (by kernel_rfl) _ _ _ _
theorem ok_spec_l00Max : FOk Try.prog phi 17 spec_l00Max_c := fn_ok hm (D := spec_l00Max_D) DOk.nil (by kernel_rfl) _ _ _ _
theorem ok_spec_l14Strong : FOk Try.prog phi 50 spec_l14Strong_c := fn_ok hm (D := spec_l14Strong_D) (DOk.cons ok_spec_l01Div (DOk.cons ok_spec_l00Max DOk.nil)) (by kernel_rfl) _ _ _ _
theorem ok_spec_StrengthOf : FOk Try.prog phi 177 spec_StrengthOf_c := fn_ok hm (D := spec_StrengthOf_D) (DOk.cons ok_spec_l14One (DOk.cons ok_spec_l14Strong DOk.nil)) (by kernel_rfl) _ _ _ _
theorem ok_spec_l00Src_text : FOk Try.prog phi 557 spec_l00Src_text_c := fn_ok hm (D := spec_l00Src_text_D) (DOk.cons ok_spec_l00Src_pick DOk.nil) (by kernel_rfl) _ _ _ _
theorem ok_spec_DrawMixPots : FOk Try.prog phi 175 spec_DrawMixPots_c := fn_ok hm (D := spec_DrawMixPots_D) (DOk.cons ok_spec_l00From (DOk.cons ok_spec_l00Src_text (DOk.cons ok_spec_l14DrawOne (DOk.cons ok_spec_l14Bent DOk.nil)))) (by kernel_rfl) _ _ _ _
theorem ok_impl_MixPots : FOk Try.prog phi 174 impl_MixPots_c := fn_ok hm (D := impl_MixPots_D) (DOk.cons ok_impl_IsName (DOk.cons ok_impl_Pot_valid DOk.nil)) (by kernel_rfl) _ _ _ _
theorem ok_spec_l14DrawPull : FOk Try.prog phi 563 spec_l14DrawPull_c := fn_ok hm (D := spec_l14DrawPull_D) (DOk.cons ok_spec_l00Src_among (DOk.cons ok_spec_l00Src_pick (DOk.cons ok_spec_l00Src_one DOk.nil))) (by kernel_rfl) _ _ _ _
theorem ok_spec_l14DrawArea : FOk Try.prog phi 562 spec_l14DrawArea_c := fn_ok hm (D := spec_l14DrawArea_D) (DOk.cons ok_spec_l00Src_among DOk.nil) (by kernel_rfl) _ _ _ _
theorem ok_spec_l14DrawSeconds : FOk Try.prog phi 561 spec_l14DrawSeconds_c := fn_ok hm (D := spec_l14DrawSeconds_D) (DOk.cons ok_spec_l00Src_among (DOk.cons ok_spec_l00Src_pick (DOk.cons ok_spec_l00Src_one DOk.nil))) (by kernel_rfl) _ _ _ _
theorem ok_spec_l14DrawRoom : FOk Try.prog phi 560 spec_l14DrawRoom_c := fn_ok hm (D := spec_l14DrawRoom_D) (DOk.cons ok_spec_l00Src_among DOk.nil) (by kernel_rfl) _ _ _ _
theorem ok_spec_DrawPotFor : FOk Try.prog phi 173 spec_DrawPotFor_c := fn_ok hm (D := spec_DrawPotFor_D) (DOk.cons ok_spec_l00From (DOk.cons ok_spec_l14Draw (DOk.cons ok_spec_l14DrawRoom (DOk.cons ok_spec_l14DrawSeconds (DOk.cons ok_spec_l14DrawArea (DOk.cons ok_spec_l14DrawPull DOk.nil)))))) (by kernel_rfl) _ _ _ _
theorem ok_impl_isJoint : FOk Try.prog phi 56 impl_isJoint_c := fn_ok hm (D := impl_isJoint_D) (DOk.cons ok_impl_within DOk.nil) (by kernel_rfl) _ _ _ _
theorem ok_impl_isSeconds : FOk Try.prog phi 36 impl_isSeconds_c := fn_ok hm (D := impl_isSeconds_D) (DOk.cons ok_impl_within DOk.nil) (by kernel_rfl) _ _ _ _
theorem ok_impl_isRoom : FOk Try.prog phi 29 impl_isRoom_c := fn_ok hm (D := impl_isRoom_D) (DOk.cons ok_impl_within DOk.nil) (by kernel_rfl) _ _ _ _
theorem ok_impl_Pot_holdsJoint : FOk Try.prog phi 55 impl_Pot_holdsJoint_c := fn_ok hm (D := impl_Pot_holdsJoint_D) (DOk.cons ok_impl_Pot_strength DOk.nil) (by kernel_rfl) _ _ _ _
theorem ok_impl_Pot_open : FOk Try.prog phi 28 impl_Pot_open_c := fn_ok hm (D := impl_Pot_open_D) (DOk.cons ok_impl_divRound DOk.nil) (by kernel_rfl) _ _ _ _
theorem ok_impl_PotFor : FOk Try.prog phi 61 impl_PotFor_c := fn_ok hm (D := impl_PotFor_D) (DOk.cons ok_impl_Pot_open (DOk.cons ok_impl_isRoom (DOk.cons ok_impl_isSeconds (DOk.cons ok_impl_Pot_holdsJoint (DOk.cons ok_impl_isJoint (DOk.cons ok_impl_ValidPots DOk.nil)))))) (by kernel_rfl) _ _ _ _
theorem ok_impl_HoldsJoint : FOk Try.prog phi 172 impl_HoldsJoint_c := fn_ok hm (D := impl_HoldsJoint_D) (DOk.cons ok_impl_Pot_valid (DOk.cons ok_impl_Pot_holdsJoint (DOk.cons ok_impl_isJoint DOk.nil))) (by kernel_rfl) _ _ _ _
theorem ok_spec_l14Room : FOk Try.prog phi 19 spec_l14Room_c := fn_ok hm (D := spec_l14Room_D) (DOk.cons ok_spec_l00In DOk.nil) (by kernel_rfl) _ _ _ _
theorem ok_spec_l14Open : FOk Try.prog phi 18 spec_l14Open_c := fn_ok hm (D := spec_l14Open_D) (DOk.cons ok_spec_l01Div (DOk.cons ok_spec_l00Max DOk.nil)) (by kernel_rfl) _ _ _ _
theorem ok_spec_OpenSeconds : FOk Try.prog phi 33 spec_OpenSeconds_c := fn_ok hm (D := spec_OpenSeconds_D) (DOk.cons ok_spec_l14Open (DOk.cons ok_spec_l14Room (DOk.cons ok_spec_l14One DOk.nil))) (by kernel_rfl) _ _ _ _
theorem ok_laws_FnPots : FOk Try.prog phi 1256 laws_FnPots_c := fn_ok hm (D := laws_FnPots_D) (DOk.cons ok_spec_OpenSeconds (DOk.cons ok_impl_PotFor (DOk.cons ok_laws_b10Long (DOk.cons ok_impl_HoldsJoint (DOk.cons ok_spec_DrawPotFor (DOk.cons ok_impl_MixPots (DOk.cons ok_spec_DrawMixPots (DOk.cons ok_laws_b10Sum (DOk.cons ok_spec_StrengthOf (DOk.cons ok_impl_SpillOf (DOk.cons ok_impl_GlueJoints (DOk.cons ok_spec_DrawGlueJoints DOk.nil)))))))))))) (by kernel_rfl) _ _ _ _
theorem law : ∀ x,wfU laws_FnPots_c.ps x → ∃ y,laws_FnPots_c.f x = some y ∧ resA laws_FnPots_c y = ([A.bool true],[]) := fun x hx => ⟨true,(laws_FnPots_true x.1 x.2.1 hx.1 hx.2.1),rfl⟩
theorem own : ownKnob Try.prog.godebug = none := by kernel_rfl
theorem laid : laidOutB Try.prog = true := by kernel_rfl
theorem reads : ∀ t ∈ Try.f5.params.toList,Try.prog.readableRec t = true ∧ t < Try.prog.types.size := by
 have h : (Try.f5.params.toList.all fun t => Try.prog.readableRec t && decide (t < Try.prog.types.size)) = true := by kernel_rfl
 intro t ht
 have := List.all_eq_true.1 h t ht
 simpa only [Bool.and_eq_true,decide_eq_true_eq] using this
theorem spec_eq (H : Type) : ∀ (ds : List (DataW H)),ds.length = Try.f5.params.toList.length → Rows.fnPotsSpec.fn H ds = { results := [.lit (.bool true)],args := ds } := by
 intro ds hd
 have hd : ds.length = 2 := hd
 match ds,hd with
 | [d0,d1],_ => rfl
theorem tab (W : World) : ∀ i,Try.prog.globalNamed pow10Name = some i → Lib.TabIs Try.prog W pow10Name .u64 Lib.pow10Tab := by
 intro i hi
 have h : Try.prog.globalNamed pow10Name = none := by kernel_rfl
 rw [h] at hi; cases hi
theorem errs (W : World) : ∀ n,errNames.contains n = true → ∀ i,Try.prog.globalNamed n = some i → ∃ u v,W.var? Try.prog n = some #[.iface u v] := by
 intro n hn i hi
 have hn : n = "strconv.ErrSyntax" ∨ n = "strconv.ErrRange" := by simpa [errNames] using hn
 rcases hn with rfl | rfl
 ·have h : Try.prog.globalNamed "strconv.ErrSyntax" = none := by kernel_rfl
  rw [h] at hi; cases hi
 ·have h : Try.prog.globalNamed "strconv.ErrRange" = none := by kernel_rfl
  rw [h] at hi; cases hi
theorem contract (H : Type) (enc : TypeId × Value → H) (W : World) (base : Nat) (args : Array Value) (ds gs : List (DataW H)) (before : List MemPlace)
 (hval : ∀ (j : Nat) t v,Try.f5.params[j]? = some t → args[j]? = some v → Value.okWide Try.prog W .any base t v)
 (hW : DataW.Whole enc Try.prog Try.f5.params.toList Rows.fnPotsSpec.vars false W args.toList ds gs before) (hsh : W.ShapedOpen Try.prog) :
 Calls Try.prog 5 args W fun e W' => ∃ v,e = .returned v ∧ Rows.fnPotsSpec.post enc Try.prog Try.f5 false true false false W args v W' :=
 row_contract (φ := phi) (g := 1256) (n := 20) ok_laws_FnPots rfl rfl (tb := 4) Try.underlying4 (by kernel_rfl) rfl law laid reads spec_eq W base args ds gs before hval hW (Glob.start hsh (tab W) (errs W))
theorem lifted (os : Os) (started : os.Started) (H : Type) (enc : TypeId × Value → H) :
 ReturnsInHanded {} Try.checked os 5 .any (Rows.fnPotsSpec.pre6 enc Try.prog Try.f5 Rows.fnPotsRow.domain false) (Rows.fnPotsSpec.post enc Try.prog Try.f5 false true false false) := by
 refine returnsInHanded_of_change_shaped (C := Try.checked) own started (by kernel_rfl) Try.func5
  (ChangeSpec.witness6 (enc := enc) (C := Try.checked) false ⟨#[],#[.slice none 0 0,.slice none 0 0],[]⟩ 12 (by kernel_rfl) (by kernel_rfl) (by kernel_rfl) (by kernel_rfl)) ?_
 intro W base args ds gs before hval hW _ _ hsh _
 exact contract H enc W base args ds gs before hval hW hsh
theorem over : Rows.fnPotsRow.holds Try.pinned (OpenSpec.ofChange Rows.fnPotsSpec) :=
 OpenClaim.holds_of_wide 5 Try.f5 rfl rfl rfl rfl rfl rfl rfl ⟨rfl,rfl,rfl,rfl,rfl⟩ rfl rfl rfl rfl rfl (by kernel_rfl) Try.func5 (by kernel_rfl)
  (of_decide_eq_true (by kernel_rfl)) (by unfold Func.isWrapper; first | (rw [if_pos (by decide +kernel)]; kernel_rfl) | (rw [if_neg (by decide +kernel)]; exact ⟨rfl,rfl⟩))
  (fun os started H enc _ => lifted os started H enc)
theorem proved : Rows.FnPotsSaid := over
end Go.Proofs.Ytpokgomeahjacaa.fnPots
