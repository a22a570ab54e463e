/- The law FnRibs answers true for every input, whatever it is, and leaves its arguments as they were. Conditions: none. -/
import Derived.Test.YtpokgomeahjacaaQFnRibs
import Derived.Test.YtpokgomeahjacaaRows
import Derived.Test.YtpokgomeahjacaaL5
import Derived.WalkKit
import Derived.ProofKit
import Derived.OpenShut
import Derived.JoinedOf
import Derived.Handed
set_option linter.unusedVariables false
set_option maxRecDepth 100000
namespace Go.Proofs.Ytpokgomeahjacaa.fnRibs
open Go.Ab Go.Ab.P
open Go.ChangeShapes Go.WideShapes Go.ChangeAt Go.RowKit
def phiL : List (Nat × Nat) := [(76,6),(441,39),(847,114),(463,94),(642,92),(760,101),(445,46),(761,102),(726,103),(505,53),(504,54),(503,55),(469,41),(135,19),(22,113),(21,97),(24,80),(23,43),(762,104),(509,56),(508,57),(507,58),(510,60),(506,59),(134,20),(133,21),(132,22),(511,61),(131,23),(27,48),(452,62),(130,24),(513,63),(512,64),(129,25),(515,65),(514,66),(128,26),(127,27),(1257,4)]
def phi (n : Nat) : Nat := (phiL.lookup n).getD 1000000
theorem hm : Try.prog.follows .mixedOrders = true := by kernel_rfl
theorem ok_laws_b10Long : FOk Try.prog phi 76 laws_b10Long_c := fn_ok hm (D := laws_b10Long_D) DOk.nil (by kernel_rfl) _ _ _ _
theorem ok_spec_l00From : FOk Try.prog phi 441 spec_l00From_c := fn_ok hm (D := spec_l00From_D) DOk.nil (by kernel_rfl) _ _ _ _
theorem ok_spec_l00Src_next : FOk Try.prog phi 847 spec_l00Src_next_c := fn_ok hm (D := spec_l00Src_next_D) DOk.nil (by kernel_rfl) _ _ _ _
theorem ok_spec_l00Src_pick : FOk Try.prog phi 463 spec_l00Src_pick_c := fn_ok hm (D := spec_l00Src_pick_D) (DOk.cons ok_spec_l00Src_next DOk.nil) (by kernel_rfl) _ _ _ _
theorem ok_spec_l00Src_one : FOk Try.prog phi 642 spec_l00Src_one_c := fn_ok hm (D := spec_l00Src_one_D) (DOk.cons ok_spec_l00Src_pick DOk.nil) (by kernel_rfl) _ _ _ _
theorem ok_spec_l06DrawOne : FOk Try.prog phi 760 spec_l06DrawOne_c := fn_ok hm (D := spec_l06DrawOne_D) (DOk.cons ok_spec_l00Src_pick DOk.nil) (by kernel_rfl) _ _ _ _
theorem ok_spec_l00Src_among : FOk Try.prog phi 445 spec_l00Src_among_c := fn_ok hm (D := spec_l00Src_among_D) (DOk.cons ok_spec_l00Src_pick DOk.nil) (by kernel_rfl) _ _ _ _
theorem ok_spec_l06Bent : FOk Try.prog phi 761 spec_l06Bent_c := fn_ok hm (D := spec_l06Bent_D) (DOk.cons ok_spec_l00Src_among (DOk.cons ok_spec_l00Src_pick DOk.nil)) (by kernel_rfl) _ _ _ _
theorem ok_spec_l01Dec : FOk Try.prog phi 726 spec_l01Dec_c := fn_ok hm (D := spec_l01Dec_D) DOk.nil (by kernel_rfl) _ _ _ _
theorem ok_spec_l06Draw : FOk Try.prog phi 505 spec_l06Draw_c := fn_ok hm (D := spec_l06Draw_D) (DOk.cons ok_spec_l00Src_among (DOk.cons ok_spec_l00Src_pick (DOk.cons ok_spec_l00Src_one (DOk.cons ok_spec_l01Dec (DOk.cons ok_spec_l06DrawOne (DOk.cons ok_spec_l06Bent DOk.nil)))))) (by kernel_rfl) _ _ _ _
theorem ok_spec_l06DrawStrip : FOk Try.prog phi 504 spec_l06DrawStrip_c := fn_ok hm (D := spec_l06DrawStrip_D) (DOk.cons ok_spec_l00Src_among (DOk.cons ok_spec_l00Src_pick (DOk.cons ok_spec_l00Src_one DOk.nil))) (by kernel_rfl) _ _ _ _
theorem ok_spec_l06DrawSaw : FOk Try.prog phi 503 spec_l06DrawSaw_c := fn_ok hm (D := spec_l06DrawSaw_D) (DOk.cons ok_spec_l00Src_among DOk.nil) (by kernel_rfl) _ _ _ _
theorem ok_spec_l06DrawBudget : FOk Try.prog phi 469 spec_l06DrawBudget_c := fn_ok hm (D := spec_l06DrawBudget_D) (DOk.cons ok_spec_l00Src_among DOk.nil) (by kernel_rfl) _ _ _ _
theorem ok_spec_DrawCutRibs : FOk Try.prog phi 135 spec_DrawCutRibs_c := fn_ok hm (D := spec_DrawCutRibs_D) (DOk.cons ok_spec_l00From (DOk.cons ok_spec_l06DrawBudget (DOk.cons ok_spec_l06DrawSaw (DOk.cons ok_spec_l06DrawStrip (DOk.cons ok_spec_l06Draw DOk.nil))))) (by kernel_rfl) _ _ _ _
theorem ok_impl_isDigit : FOk Try.prog phi 22 impl_isDigit_c := fn_ok hm (D := impl_isDigit_D) DOk.nil (by kernel_rfl) _ _ _ _
theorem ok_impl_few : FOk Try.prog phi 21 impl_few_c := fn_ok hm (D := impl_few_D) DOk.nil (by kernel_rfl) _ _ _ _
theorem ok_impl_IsName : FOk Try.prog phi 24 impl_IsName_c := fn_ok hm (D := impl_IsName_D) (DOk.cons ok_impl_few (DOk.cons ok_impl_isDigit DOk.nil)) (by kernel_rfl) _ _ _ _
theorem ok_impl_within : FOk Try.prog phi 23 impl_within_c := fn_ok hm (D := impl_within_D) DOk.nil (by kernel_rfl) _ _ _ _
theorem ok_impl_Rib_valid : FOk Try.prog phi 762 impl_Rib_valid_c := fn_ok hm (D := impl_Rib_valid_D) (DOk.cons ok_impl_within (DOk.cons ok_impl_IsName DOk.nil)) (by kernel_rfl) _ _ _ _
theorem ok_impl_ValidRibs : FOk Try.prog phi 509 impl_ValidRibs_c := fn_ok hm (D := impl_ValidRibs_D) (DOk.cons ok_impl_few (DOk.cons ok_impl_Rib_valid DOk.nil)) (by kernel_rfl) _ _ _ _
theorem ok_impl_isStrip : FOk Try.prog phi 508 impl_isStrip_c := fn_ok hm (D := impl_isStrip_D) (DOk.cons ok_impl_within DOk.nil) (by kernel_rfl) _ _ _ _
theorem ok_impl_cutting_tooLong : FOk Try.prog phi 507 impl_cutting_tooLong_c := fn_ok hm (D := impl_cutting_tooLong_D) DOk.nil (by kernel_rfl) _ _ _ _
theorem ok_impl_cutting_take : FOk Try.prog phi 510 impl_cutting_take_c := fn_ok hm (D := impl_cutting_take_D) DOk.nil (by kernel_rfl) _ _ _ _
theorem ck_impl_cutting_search : chkFn Try.prog phi 506 impl_cutting_search_ir = true := by kernel_rfl
theorem ok_impl_cutting_search_N : ∀ n,FOk Try.prog phi 506 (impl_cutting_search_N n)
 | 0 => FOk.none (fn_ok hm (D := []) DOk.nil ck_impl_cutting_search [] [] [] []).1
 | n + 1 => by rw [impl_cutting_search_N_eq]; exact fn_ok hm (D := impl_cutting_search_D n) (DOk.cons (ok_impl_cutting_search_N n) (DOk.cons ok_impl_cutting_take DOk.nil)) ck_impl_cutting_search _ _ _ _
theorem ok_impl_cutting_search : FOk Try.prog phi 506 impl_cutting_search_c := ok_impl_cutting_search_N 1000
theorem ok_impl_CutRibs : FOk Try.prog phi 134 impl_CutRibs_c := fn_ok hm (D := impl_CutRibs_D) (DOk.cons ok_impl_within (DOk.cons ok_impl_cutting_search (DOk.cons ok_impl_cutting_tooLong (DOk.cons ok_impl_isStrip (DOk.cons ok_impl_ValidRibs DOk.nil))))) (by kernel_rfl) _ _ _ _
theorem ok_impl_StripsLeft : FOk Try.prog phi 133 impl_StripsLeft_c := fn_ok hm (D := impl_StripsLeft_D) (DOk.cons ok_impl_within (DOk.cons ok_impl_isStrip (DOk.cons ok_impl_ValidRibs DOk.nil))) (by kernel_rfl) _ _ _ _
theorem ok_impl_FirstCuts : FOk Try.prog phi 132 impl_FirstCuts_c := fn_ok hm (D := impl_FirstCuts_D) (DOk.cons ok_impl_cutting_tooLong (DOk.cons ok_impl_isStrip (DOk.cons ok_impl_ValidRibs (DOk.cons ok_impl_cutting_take DOk.nil)))) (by kernel_rfl) _ _ _ _
theorem ok_spec_l06DrawSize : FOk Try.prog phi 511 spec_l06DrawSize_c := fn_ok hm (D := spec_l06DrawSize_D) (DOk.cons ok_spec_l00Src_among (DOk.cons ok_spec_l00Src_pick (DOk.cons ok_spec_l00Src_one DOk.nil))) (by kernel_rfl) _ _ _ _
theorem ok_spec_DrawTaperHeights : FOk Try.prog phi 131 spec_DrawTaperHeights_c := fn_ok hm (D := spec_DrawTaperHeights_D) (DOk.cons ok_spec_l00From (DOk.cons ok_spec_l00Src_among (DOk.cons ok_spec_l06DrawSize DOk.nil))) (by kernel_rfl) _ _ _ _
theorem ok_impl_divRound : FOk Try.prog phi 27 impl_divRound_c := fn_ok hm (D := impl_divRound_D) DOk.nil (by kernel_rfl) _ _ _ _
theorem ok_impl_blend : FOk Try.prog phi 452 impl_blend_c := fn_ok hm (D := impl_blend_D) (DOk.cons ok_impl_divRound DOk.nil) (by kernel_rfl) _ _ _ _
theorem ok_impl_TaperHeights : FOk Try.prog phi 130 impl_TaperHeights_c := fn_ok hm (D := impl_TaperHeights_D) (DOk.cons ok_impl_within (DOk.cons ok_impl_blend DOk.nil)) (by kernel_rfl) _ _ _ _
theorem ok_spec_l06DrawThick : FOk Try.prog phi 513 spec_l06DrawThick_c := fn_ok hm (D := spec_l06DrawThick_D) (DOk.cons ok_spec_l00Src_among DOk.nil) (by kernel_rfl) _ _ _ _
theorem ok_spec_l06DrawHeat : FOk Try.prog phi 512 spec_l06DrawHeat_c := fn_ok hm (D := spec_l06DrawHeat_D) (DOk.cons ok_spec_l00Src_among DOk.nil) (by kernel_rfl) _ _ _ _
theorem ok_spec_DrawLeastBend : FOk Try.prog phi 129 spec_DrawLeastBend_c := fn_ok hm (D := spec_DrawLeastBend_D) (DOk.cons ok_spec_l00From (DOk.cons ok_spec_l00Src_among (DOk.cons ok_spec_l06DrawHeat (DOk.cons ok_spec_l06DrawThick DOk.nil)))) (by kernel_rfl) _ _ _ _
theorem ok_impl_isBend : FOk Try.prog phi 515 impl_isBend_c := fn_ok hm (D := impl_isBend_D) (DOk.cons ok_impl_within DOk.nil) (by kernel_rfl) _ _ _ _
theorem ok_impl_bendSteps : FOk Try.prog phi 514 impl_bendSteps_c := fn_ok hm (D := impl_bendSteps_D) DOk.nil (by kernel_rfl) _ _ _ _
theorem ok_impl_LeastBend : FOk Try.prog phi 128 impl_LeastBend_c := fn_ok hm (D := impl_LeastBend_D) (DOk.cons ok_impl_within (DOk.cons ok_impl_bendSteps (DOk.cons ok_impl_isBend DOk.nil))) (by kernel_rfl) _ _ _ _
theorem ok_impl_BendSteps : FOk Try.prog phi 127 impl_BendSteps_c := fn_ok hm (D := impl_BendSteps_D) (DOk.cons ok_impl_within (DOk.cons ok_impl_bendSteps (DOk.cons ok_impl_isBend DOk.nil))) (by kernel_rfl) _ _ _ _
theorem ok_laws_FnRibs : FOk Try.prog phi 1257 laws_FnRibs_c := fn_ok hm (D := laws_FnRibs_D) (DOk.cons ok_laws_b10Long (DOk.cons ok_impl_BendSteps (DOk.cons ok_impl_LeastBend (DOk.cons ok_spec_DrawLeastBend (DOk.cons ok_impl_TaperHeights (DOk.cons ok_spec_DrawTaperHeights (DOk.cons ok_impl_FirstCuts (DOk.cons ok_impl_StripsLeft (DOk.cons ok_impl_CutRibs (DOk.cons ok_spec_DrawCutRibs DOk.nil)))))))))) (by kernel_rfl) _ _ _ _
theorem law : ∀ x,wfU laws_FnRibs_c.ps x → ∃ y,laws_FnRibs_c.f x = some y ∧ resA laws_FnRibs_c y = ([A.bool true],[]) := fun x hx => ⟨true,(laws_FnRibs_true x.1 x.2.1 hx.1 hx.2.1),rfl⟩
theorem own : ownKnob Try.prog.godebug = none := by kernel_rfl
theorem laid : laidOutB Try.prog = true := by kernel_rfl
theorem reads : ∀ t ∈ Try.f4.params.toList,Try.prog.readableRec t = true ∧ t < Try.prog.types.size := by
 have h : (Try.f4.params.toList.all fun t => Try.prog.readableRec t && decide (t < Try.prog.types.size)) = true := by kernel_rfl
 intro t ht
 have := List.all_eq_true.1 h t ht
 simpa only [Bool.and_eq_true,decide_eq_true_eq] using this
theorem spec_eq (H : Type) : ∀ (ds : List (DataW H)),ds.length = Try.f4.params.toList.length → Rows.fnRibsSpec.fn H ds = { results := [.lit (.bool true)],args := ds } := by
 intro ds hd
 have hd : ds.length = 2 := hd
 match ds,hd with
 | [d0,d1],_ => rfl
theorem tab (W : World) : ∀ i,Try.prog.globalNamed pow10Name = some i → Lib.TabIs Try.prog W pow10Name .u64 Lib.pow10Tab := by
 intro i hi
 have h : Try.prog.globalNamed pow10Name = none := by kernel_rfl
 rw [h] at hi; cases hi
theorem errs (W : World) : ∀ n,errNames.contains n = true → ∀ i,Try.prog.globalNamed n = some i → ∃ u v,W.var? Try.prog n = some #[.iface u v] := by
 intro n hn i hi
 have hn : n = "strconv.ErrSyntax" ∨ n = "strconv.ErrRange" := by simpa [errNames] using hn
 rcases hn with rfl | rfl
 ·have h : Try.prog.globalNamed "strconv.ErrSyntax" = none := by kernel_rfl
  rw [h] at hi; cases hi
 ·have h : Try.prog.globalNamed "strconv.ErrRange" = none := by kernel_rfl
  rw [h] at hi; cases hi
theorem contract (H : Type) (enc : TypeId × Value → H) (W : World) (base : Nat) (args : Array Value) (ds gs : List (DataW H)) (before : List MemPlace)
 (hval : ∀ (j : Nat) t v,Try.f4.params[j]? = some t → args[j]? = some v → Value.okWide Try.prog W .any base t v)
 (hW : DataW.Whole enc Try.prog Try.f4.params.toList Rows.fnRibsSpec.vars false W args.toList ds gs before) (hsh : W.ShapedOpen Try.prog) :
 Calls Try.prog 4 args W fun e W' => ∃ v,e = .returned v ∧ Rows.fnRibsSpec.post enc Try.prog Try.f4 false true false false W args v W' :=
 row_contract (φ := phi) (g := 1257) (n := 20) ok_laws_FnRibs rfl rfl (tb := 4) Try.underlying4 (by kernel_rfl) rfl law laid reads spec_eq W base args ds gs before hval hW (Glob.start hsh (tab W) (errs W))
theorem lifted (os : Os) (started : os.Started) (H : Type) (enc : TypeId × Value → H) :
 ReturnsInHanded {} Try.checked os 4 .any (Rows.fnRibsSpec.pre6 enc Try.prog Try.f4 Rows.fnRibsRow.domain false) (Rows.fnRibsSpec.post enc Try.prog Try.f4 false true false false) := by
 refine returnsInHanded_of_change_shaped (C := Try.checked) own started (by kernel_rfl) Try.func4
  (ChangeSpec.witness6 (enc := enc) (C := Try.checked) false ⟨#[],#[.slice none 0 0,.slice none 0 0],[]⟩ 12 (by kernel_rfl) (by kernel_rfl) (by kernel_rfl) (by kernel_rfl)) ?_
 intro W base args ds gs before hval hW _ _ hsh _
 exact contract H enc W base args ds gs before hval hW hsh
theorem over : Rows.fnRibsRow.holds Try.pinned (OpenSpec.ofChange Rows.fnRibsSpec) :=
 OpenClaim.holds_of_wide 4 Try.f4 rfl rfl rfl rfl rfl rfl rfl ⟨rfl,rfl,rfl,rfl,rfl⟩ rfl rfl rfl rfl rfl (by kernel_rfl) Try.func4 (by kernel_rfl)
  (of_decide_eq_true (by kernel_rfl)) (by unfold Func.isWrapper; first | (rw [if_pos (by decide +kernel)]; kernel_rfl) | (rw [if_neg (by decide +kernel)]; exact ⟨rfl,rfl⟩))
  (fun os started H enc _ => lifted os started H enc)
theorem proved : Rows.FnRibsSaid := over
end Go.Proofs.Ytpokgomeahjacaa.fnRibs
