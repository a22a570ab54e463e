/- The law FnModes answers true for every input, whatever it is, and leaves its arguments as they were. Conditions: none. -/
import Derived.Test.YtpokgomeahjacaaQFnModes
import Derived.Test.YtpokgomeahjacaaRows
import Derived.Test.YtpokgomeahjacaaL5
import Derived.WalkKit
import Derived.ProofKit
import Derived.OpenShut
import Derived.JoinedOf
import Derived.Handed
set_option linter.unusedVariables false
set_option maxRecDepth 100000
namespace Go.Proofs.Ytpokgomeahjacaa.fnModes
open Go.Ab Go.Ab.P
open Go.ChangeShapes Go.WideShapes Go.ChangeAt Go.RowKit
def phiL : List (Nat × Nat) := [(76,6),(441,39),(847,114),(463,94),(642,92),(547,93),(445,46),(548,95),(470,40),(469,41),(110,7),(22,113),(21,97),(24,80),(23,43),(545,115),(551,96),(472,42),(624,98),(448,45),(471,44),(109,8),(69,9),(66,10),(108,11),(107,12),(106,13),(473,47),(27,48),(105,14),(11,117),(12,118),(13,107),(1,100),(1012,116),(848,99),(474,49),(104,15),(103,16),(475,50),(102,17),(477,51),(476,52),(101,18),(1255,3)]
def phi (n : Nat) : Nat := (phiL.lookup n).getD 1000000
theorem hm : Try.prog.follows .mixedOrders = true := by kernel_rfl
theorem ok_laws_b10Long : FOk Try.prog phi 76 laws_b10Long_c := fn_ok hm (D := laws_b10Long_D) DOk.nil (by kernel_rfl) _ _ _ _
theorem ok_spec_l00From : FOk Try.prog phi 441 spec_l00From_c := fn_ok hm (D := spec_l00From_D) DOk.nil (by kernel_rfl) _ _ _ _
theorem ok_spec_l00Src_next : FOk Try.prog phi 847 spec_l00Src_next_c := fn_ok hm (D := spec_l00Src_next_D) DOk.nil (by kernel_rfl) _ _ _ _
theorem ok_spec_l00Src_pick : FOk Try.prog phi 463 spec_l00Src_pick_c := fn_ok hm (D := spec_l00Src_pick_D) (DOk.cons ok_spec_l00Src_next DOk.nil) (by kernel_rfl) _ _ _ _
theorem ok_spec_l00Src_one : FOk Try.prog phi 642 spec_l00Src_one_c := fn_ok hm (D := spec_l00Src_one_D) (DOk.cons ok_spec_l00Src_pick DOk.nil) (by kernel_rfl) _ _ _ _
theorem ok_spec_l16DrawOne : FOk Try.prog phi 547 spec_l16DrawOne_c := fn_ok hm (D := spec_l16DrawOne_D) (DOk.cons ok_spec_l00Src_pick DOk.nil) (by kernel_rfl) _ _ _ _
theorem ok_spec_l00Src_among : FOk Try.prog phi 445 spec_l00Src_among_c := fn_ok hm (D := spec_l00Src_among_D) (DOk.cons ok_spec_l00Src_pick DOk.nil) (by kernel_rfl) _ _ _ _
theorem ok_spec_l16Bent : FOk Try.prog phi 548 spec_l16Bent_c := fn_ok hm (D := spec_l16Bent_D) (DOk.cons ok_spec_l00Src_among (DOk.cons ok_spec_l00Src_pick DOk.nil)) (by kernel_rfl) _ _ _ _
theorem ok_spec_l16Draw : FOk Try.prog phi 470 spec_l16Draw_c := fn_ok hm (D := spec_l16Draw_D) (DOk.cons ok_spec_l00Src_among (DOk.cons ok_spec_l00Src_pick (DOk.cons ok_spec_l16DrawOne (DOk.cons ok_spec_l16Bent (DOk.cons ok_spec_l00Src_one DOk.nil))))) (by kernel_rfl) _ _ _ _
theorem ok_spec_l06DrawBudget : FOk Try.prog phi 469 spec_l06DrawBudget_c := fn_ok hm (D := spec_l06DrawBudget_D) (DOk.cons ok_spec_l00Src_among DOk.nil) (by kernel_rfl) _ _ _ _
theorem ok_spec_DrawMatchModes : FOk Try.prog phi 110 spec_DrawMatchModes_c := fn_ok hm (D := spec_DrawMatchModes_D) (DOk.cons ok_spec_l00From (DOk.cons ok_spec_l06DrawBudget (DOk.cons ok_spec_l16Draw DOk.nil))) (by kernel_rfl) _ _ _ _
theorem ok_impl_isDigit : FOk Try.prog phi 22 impl_isDigit_c := fn_ok hm (D := impl_isDigit_D) DOk.nil (by kernel_rfl) _ _ _ _
theorem ok_impl_few : FOk Try.prog phi 21 impl_few_c := fn_ok hm (D := impl_few_D) DOk.nil (by kernel_rfl) _ _ _ _
theorem ok_impl_IsName : FOk Try.prog phi 24 impl_IsName_c := fn_ok hm (D := impl_IsName_D) (DOk.cons ok_impl_few (DOk.cons ok_impl_isDigit DOk.nil)) (by kernel_rfl) _ _ _ _
theorem ok_impl_within : FOk Try.prog phi 23 impl_within_c := fn_ok hm (D := impl_within_D) DOk.nil (by kernel_rfl) _ _ _ _
theorem ok_impl_isTone : FOk Try.prog phi 545 impl_isTone_c := fn_ok hm (D := impl_isTone_D) (DOk.cons ok_impl_within DOk.nil) (by kernel_rfl) _ _ _ _
theorem ok_impl_Mode_valid : FOk Try.prog phi 551 impl_Mode_valid_c := fn_ok hm (D := impl_Mode_valid_D) (DOk.cons ok_impl_within (DOk.cons ok_impl_IsName (DOk.cons ok_impl_isTone DOk.nil))) (by kernel_rfl) _ _ _ _
theorem ok_impl_ValidModes : FOk Try.prog phi 472 impl_ValidModes_c := fn_ok hm (D := impl_ValidModes_D) (DOk.cons ok_impl_few (DOk.cons ok_impl_Mode_valid DOk.nil)) (by kernel_rfl) _ _ _ _
theorem ok_impl_clone_int64_ : FOk Try.prog phi 624 impl_clone_int64__c := fn_ok hm (D := impl_clone_int64__D) DOk.nil (by kernel_rfl) _ _ _ _
theorem ok_impl_distance : FOk Try.prog phi 448 impl_distance_c := fn_ok hm (D := impl_distance_D) DOk.nil (by kernel_rfl) _ _ _ _
theorem ck_impl_matching_search : chkFn Try.prog phi 471 impl_matching_search_ir = true := by kernel_rfl
theorem ok_impl_matching_search_N : ∀ n,FOk Try.prog phi 471 (impl_matching_search_N n)
 | 0 => FOk.none (fn_ok hm (D := []) DOk.nil ck_impl_matching_search [] [] [] []).1
 | n + 1 => by rw [impl_matching_search_N_eq]; exact fn_ok hm (D := impl_matching_search_D n) (DOk.cons ok_impl_distance (DOk.cons (ok_impl_matching_search_N n) (DOk.cons ok_impl_clone_int64_ DOk.nil))) ck_impl_matching_search _ _ _ _
theorem ok_impl_matching_search : FOk Try.prog phi 471 impl_matching_search_c := ok_impl_matching_search_N 1000
theorem ok_impl_MatchModes : FOk Try.prog phi 109 impl_MatchModes_c := fn_ok hm (D := impl_MatchModes_D) (DOk.cons ok_impl_within (DOk.cons ok_impl_matching_search (DOk.cons ok_impl_ValidModes DOk.nil))) (by kernel_rfl) _ _ _ _
theorem ok_laws_b10Has : FOk Try.prog phi 69 laws_b10Has_c := fn_ok hm (D := laws_b10Has_D) DOk.nil (by kernel_rfl) _ _ _ _
theorem ok_laws_b10Abs : FOk Try.prog phi 66 laws_b10Abs_c := fn_ok hm (D := laws_b10Abs_D) DOk.nil (by kernel_rfl) _ _ _ _
theorem ok_spec_DrawClosestModes : FOk Try.prog phi 108 spec_DrawClosestModes_c := fn_ok hm (D := spec_DrawClosestModes_D) (DOk.cons ok_spec_l00From (DOk.cons ok_spec_l16Draw DOk.nil)) (by kernel_rfl) _ _ _ _
theorem ok_impl_ClosestModes : FOk Try.prog phi 107 impl_ClosestModes_c := fn_ok hm (D := impl_ClosestModes_D) (DOk.cons ok_impl_distance (DOk.cons ok_impl_ValidModes DOk.nil)) (by kernel_rfl) _ _ _ _
theorem ok_spec_DrawShiftModes : FOk Try.prog phi 106 spec_DrawShiftModes_c := fn_ok hm (D := spec_DrawShiftModes_D) (DOk.cons ok_spec_l00From (DOk.cons ok_spec_l00Src_among (DOk.cons ok_spec_l16Draw DOk.nil))) (by kernel_rfl) _ _ _ _
theorem ok_impl_clone_impl_Mode_ : FOk Try.prog phi 473 impl_clone_impl_Mode__c := fn_ok hm (D := impl_clone_impl_Mode__D) DOk.nil (by kernel_rfl) _ _ _ _
theorem ok_impl_divRound : FOk Try.prog phi 27 impl_divRound_c := fn_ok hm (D := impl_divRound_D) DOk.nil (by kernel_rfl) _ _ _ _
theorem ok_impl_ShiftModes : FOk Try.prog phi 105 impl_ShiftModes_c := fn_ok hm (D := impl_ShiftModes_D) (DOk.cons ok_impl_within (DOk.cons ok_impl_divRound (DOk.cons ok_impl_ValidModes (DOk.cons ok_impl_clone_impl_Mode_ DOk.nil)))) (by kernel_rfl) _ _ _ _
theorem ok_spec_l01Small : FOk Try.prog phi 11 spec_l01Small_c := fn_ok hm (D := spec_l01Small_D) DOk.nil (by kernel_rfl) _ _ _ _
theorem ok_spec_l01Digit : FOk Try.prog phi 12 spec_l01Digit_c := fn_ok hm (D := spec_l01Digit_D) DOk.nil (by kernel_rfl) _ _ _ _
theorem ok_spec_l01Name : FOk Try.prog phi 13 spec_l01Name_c := fn_ok hm (D := spec_l01Name_D) (DOk.cons ok_spec_l01Small (DOk.cons ok_spec_l01Digit DOk.nil)) (by kernel_rfl) _ _ _ _
theorem ok_spec_l00In : FOk Try.prog phi 1 spec_l00In_c := fn_ok hm (D := spec_l00In_D) DOk.nil (by kernel_rfl) _ _ _ _
theorem ok_spec_l16Tone : FOk Try.prog phi 1012 spec_l16Tone_c := fn_ok hm (D := spec_l16Tone_D) (DOk.cons ok_spec_l00In DOk.nil) (by kernel_rfl) _ _ _ _
theorem ok_spec_l16One : FOk Try.prog phi 848 spec_l16One_c := fn_ok hm (D := spec_l16One_D) (DOk.cons ok_spec_l00In (DOk.cons ok_spec_l01Name (DOk.cons ok_spec_l16Tone DOk.nil))) (by kernel_rfl) _ _ _ _
theorem ok_spec_l16Ok : FOk Try.prog phi 474 spec_l16Ok_c := fn_ok hm (D := spec_l16Ok_D) (DOk.cons ok_spec_l16One DOk.nil) (by kernel_rfl) _ _ _ _
theorem ok_spec_ValidModes : FOk Try.prog phi 104 spec_ValidModes_c := fn_ok hm (D := spec_ValidModes_D) (DOk.cons ok_spec_l16Ok DOk.nil) (by kernel_rfl) _ _ _ _
theorem ok_spec_DrawWolfNotes : FOk Try.prog phi 103 spec_DrawWolfNotes_c := fn_ok hm (D := spec_DrawWolfNotes_D) (DOk.cons ok_spec_l00From (DOk.cons ok_spec_l00Src_among (DOk.cons ok_spec_l16Draw DOk.nil))) (by kernel_rfl) _ _ _ _
theorem ok_impl_noteTone : FOk Try.prog phi 475 impl_noteTone_c := fn_ok hm (D := impl_noteTone_D) DOk.nil (by kernel_rfl) _ _ _ _
theorem ok_impl_WolfNotes : FOk Try.prog phi 102 impl_WolfNotes_c := fn_ok hm (D := impl_WolfNotes_D) (DOk.cons ok_impl_within (DOk.cons ok_impl_distance (DOk.cons ok_impl_ValidModes (DOk.cons ok_impl_noteTone DOk.nil)))) (by kernel_rfl) _ _ _ _
theorem ok_spec_l16Note : FOk Try.prog phi 477 spec_l16Note_c := fn_ok hm (D := spec_l16Note_D) (DOk.cons ok_spec_l00In DOk.nil) (by kernel_rfl) _ _ _ _
theorem ok_spec_l16NoteTone : FOk Try.prog phi 476 spec_l16NoteTone_c := fn_ok hm (D := spec_l16NoteTone_D) DOk.nil (by kernel_rfl) _ _ _ _
theorem ok_spec_NoteTone : FOk Try.prog phi 101 spec_NoteTone_c := fn_ok hm (D := spec_NoteTone_D) (DOk.cons ok_spec_l16NoteTone (DOk.cons ok_spec_l16Note DOk.nil)) (by kernel_rfl) _ _ _ _
theorem ok_laws_FnModes : FOk Try.prog phi 1255 laws_FnModes_c := fn_ok hm (D := laws_FnModes_D) (DOk.cons ok_laws_b10Abs (DOk.cons ok_laws_b10Has (DOk.cons ok_laws_b10Long (DOk.cons ok_spec_NoteTone (DOk.cons ok_impl_WolfNotes (DOk.cons ok_spec_DrawWolfNotes (DOk.cons ok_spec_ValidModes (DOk.cons ok_impl_ShiftModes (DOk.cons ok_spec_DrawShiftModes (DOk.cons ok_impl_ClosestModes (DOk.cons ok_spec_DrawClosestModes (DOk.cons ok_impl_MatchModes (DOk.cons ok_spec_DrawMatchModes DOk.nil))))))))))))) (by kernel_rfl) _ _ _ _
theorem law : ∀ x,wfU laws_FnModes_c.ps x → ∃ y,laws_FnModes_c.f x = some y ∧ resA laws_FnModes_c y = ([A.bool true],[]) := fun x hx => ⟨true,(laws_FnModes_true x.1 x.2.1 hx.1 hx.2.1),rfl⟩
theorem own : ownKnob Try.prog.godebug = none := by kernel_rfl
theorem laid : laidOutB Try.prog = true := by kernel_rfl
theorem reads : ∀ t ∈ Try.f3.params.toList,Try.prog.readableRec t = true ∧ t < Try.prog.types.size := by
 have h : (Try.f3.params.toList.all fun t => Try.prog.readableRec t && decide (t < Try.prog.types.size)) = true := by kernel_rfl
 intro t ht
 have := List.all_eq_true.1 h t ht
 simpa only [Bool.and_eq_true,decide_eq_true_eq] using this
theorem spec_eq (H : Type) : ∀ (ds : List (DataW H)),ds.length = Try.f3.params.toList.length → Rows.fnModesSpec.fn H ds = { results := [.lit (.bool true)],args := ds } := by
 intro ds hd
 have hd : ds.length = 2 := hd
 match ds,hd with
 | [d0,d1],_ => rfl
theorem tab (W : World) : ∀ i,Try.prog.globalNamed pow10Name = some i → Lib.TabIs Try.prog W pow10Name .u64 Lib.pow10Tab := by
 intro i hi
 have h : Try.prog.globalNamed pow10Name = none := by kernel_rfl
 rw [h] at hi; cases hi
theorem errs (W : World) : ∀ n,errNames.contains n = true → ∀ i,Try.prog.globalNamed n = some i → ∃ u v,W.var? Try.prog n = some #[.iface u v] := by
 intro n hn i hi
 have hn : n = "strconv.ErrSyntax" ∨ n = "strconv.ErrRange" := by simpa [errNames] using hn
 rcases hn with rfl | rfl
 ·have h : Try.prog.globalNamed "strconv.ErrSyntax" = none := by kernel_rfl
  rw [h] at hi; cases hi
 ·have h : Try.prog.globalNamed "strconv.ErrRange" = none := by kernel_rfl
  rw [h] at hi; cases hi
theorem contract (H : Type) (enc : TypeId × Value → H) (W : World) (base : Nat) (args : Array Value) (ds gs : List (DataW H)) (before : List MemPlace)
 (hval : ∀ (j : Nat) t v,Try.f3.params[j]? = some t → args[j]? = some v → Value.okWide Try.prog W .any base t v)
 (hW : DataW.Whole enc Try.prog Try.f3.params.toList Rows.fnModesSpec.vars false W args.toList ds gs before) (hsh : W.ShapedOpen Try.prog) :
 Calls Try.prog 3 args W fun e W' => ∃ v,e = .returned v ∧ Rows.fnModesSpec.post enc Try.prog Try.f3 false true false false W args v W' :=
 row_contract (φ := phi) (g := 1255) (n := 20) ok_laws_FnModes rfl rfl (tb := 4) Try.underlying4 (by kernel_rfl) rfl law laid reads spec_eq W base args ds gs before hval hW (Glob.start hsh (tab W) (errs W))
theorem lifted (os : Os) (started : os.Started) (H : Type) (enc : TypeId × Value → H) :
 ReturnsInHanded {} Try.checked os 3 .any (Rows.fnModesSpec.pre6 enc Try.prog Try.f3 Rows.fnModesRow.domain false) (Rows.fnModesSpec.post enc Try.prog Try.f3 false true false false) := by
 refine returnsInHanded_of_change_shaped (C := Try.checked) own started (by kernel_rfl) Try.func3
  (ChangeSpec.witness6 (enc := enc) (C := Try.checked) false ⟨#[],#[.slice none 0 0,.slice none 0 0],[]⟩ 12 (by kernel_rfl) (by kernel_rfl) (by kernel_rfl) (by kernel_rfl)) ?_
 intro W base args ds gs before hval hW _ _ hsh _
 exact contract H enc W base args ds gs before hval hW hsh
theorem over : Rows.fnModesRow.holds Try.pinned (OpenSpec.ofChange Rows.fnModesSpec) :=
 OpenClaim.holds_of_wide 3 Try.f3 rfl rfl rfl rfl rfl rfl rfl ⟨rfl,rfl,rfl,rfl,rfl⟩ rfl rfl rfl rfl rfl (by kernel_rfl) Try.func3 (by kernel_rfl)
  (of_decide_eq_true (by kernel_rfl)) (by unfold Func.isWrapper; first | (rw [if_pos (by decide +kernel)]; kernel_rfl) | (rw [if_neg (by decide +kernel)]; exact ⟨rfl,rfl⟩))
  (fun os started H enc _ => lifted os started H enc)
theorem proved : Rows.FnModesSaid := over
end Go.Proofs.Ytpokgomeahjacaa.fnModes
