/- The law FnExactCountProblems answers true for every input, whatever it is, and leaves its arguments as they were. Conditions: none. -/
import Derived.Test.YtmkgkchbdhfakaaQFnExactCountProblems
import Derived.Test.YtmkgkchbdhfakaaRows
import Derived.WalkKit
import Derived.ProofKit
import Derived.OpenShut
import Derived.JoinedOf
import Derived.Handed
set_option linter.unusedVariables false
set_option maxRecDepth 100000
namespace Go.Proofs.Ytmkgkchbdhfakaa.fnExactCountProblems
open Go.Ab Go.Ab.P
open Go.ChangeShapes Go.WideShapes Go.ChangeAt Go.RowKit
def phiL : List (Nat × Nat) := [(10, 8), (49, 18), (7, 10), (43, 20), (1, 53), (3, 32), (48, 19), (23, 43), (44, 21), (42, 22), (39, 44), (47, 23), (40, 45), (46, 24), (45, 25), (41, 26), (1223, 6)]
def phi (n : Nat) : Nat := (phiL.lookup n).getD 1000000
theorem hm : Try.prog.follows .mixedOrders = true := by kernel_rfl
theorem ck_laws_szProblem : chkFn Try.prog phi 10 laws_szProblem_ir = true := by kernel_rfl
theorem ok_laws_szProblem : FOk Try.prog phi 10 laws_szProblem_c := fn_ok hm (D := laws_szProblem_D) DOk.nil ck_laws_szProblem _ _ _ _
theorem ck_laws_szProblemS : chkFn Try.prog phi 49 laws_szProblemS_ir = true := by kernel_rfl
theorem ok_laws_szProblemS : FOk Try.prog phi 49 laws_szProblemS_c := fn_ok hm (D := laws_szProblemS_D) (DOk.cons ok_laws_szProblem DOk.nil) ck_laws_szProblemS _ _ _ _
theorem ck_laws_toProblem : chkFn Try.prog phi 7 laws_toProblem_ir = true := by kernel_rfl
theorem ok_laws_toProblem : FOk Try.prog phi 7 laws_toProblem_c := fn_ok hm (D := laws_toProblem_D) DOk.nil ck_laws_toProblem _ _ _ _
theorem ck_laws_toProblemS : chkFn Try.prog phi 43 laws_toProblemS_ir = true := by kernel_rfl
theorem ok_laws_toProblemS : FOk Try.prog phi 43 laws_toProblemS_c := fn_ok hm (D := laws_toProblemS_D) (DOk.cons ok_laws_toProblem DOk.nil) ck_laws_toProblemS _ _ _ _
theorem ck_spec_l00In : chkFn Try.prog phi 1 spec_l00In_ir = true := by kernel_rfl
theorem ok_spec_l00In : FOk Try.prog phi 1 spec_l00In_c := fn_ok hm (D := spec_l00In_D) DOk.nil ck_spec_l00In _ _ _ _
theorem ck_spec_l31Kind : chkFn Try.prog phi 3 spec_l31Kind_ir = true := by kernel_rfl
theorem ok_spec_l31Kind : FOk Try.prog phi 3 spec_l31Kind_c := fn_ok hm (D := spec_l31Kind_D) (DOk.cons ok_spec_l00In DOk.nil) ck_spec_l31Kind _ _ _ _
theorem ck_spec_CountProblems : chkFn Try.prog phi 48 spec_CountProblems_ir = true := by kernel_rfl
theorem ok_spec_CountProblems : FOk Try.prog phi 48 spec_CountProblems_c := fn_ok hm (D := spec_CountProblems_D) (DOk.cons ok_spec_l31Kind DOk.nil) ck_spec_CountProblems _ _ _ _
theorem ck_impl_within : chkFn Try.prog phi 23 impl_within_ir = true := by kernel_rfl
theorem ok_impl_within : FOk Try.prog phi 23 impl_within_c := fn_ok hm (D := impl_within_D) DOk.nil ck_impl_within _ _ _ _
theorem ck_impl_CountProblems : chkFn Try.prog phi 44 impl_CountProblems_ir = true := by kernel_rfl
theorem ok_impl_CountProblems : FOk Try.prog phi 44 impl_CountProblems_c := fn_ok hm (D := impl_CountProblems_D) (DOk.cons ok_impl_within DOk.nil) ck_impl_CountProblems _ _ _ _
theorem ck_laws_eqInt64S : chkFn Try.prog phi 42 laws_eqInt64S_ir = true := by kernel_rfl
theorem ok_laws_eqInt64S : FOk Try.prog phi 42 laws_eqInt64S_c := fn_ok hm (D := laws_eqInt64S_D) DOk.nil ck_laws_eqInt64S _ _ _ _
theorem ck_laws_eqProblem : chkFn Try.prog phi 39 laws_eqProblem_ir = true := by kernel_rfl
theorem ok_laws_eqProblem : FOk Try.prog phi 39 laws_eqProblem_c := fn_ok hm (D := laws_eqProblem_D) DOk.nil ck_laws_eqProblem _ _ _ _
theorem ck_laws_eqProblemS : chkFn Try.prog phi 47 laws_eqProblemS_ir = true := by kernel_rfl
theorem ok_laws_eqProblemS : FOk Try.prog phi 47 laws_eqProblemS_c := fn_ok hm (D := laws_eqProblemS_D) (DOk.cons ok_laws_eqProblem DOk.nil) ck_laws_eqProblemS _ _ _ _
theorem ck_laws_markText : chkFn Try.prog phi 40 laws_markText_ir = true := by kernel_rfl
theorem ok_laws_markText : FOk Try.prog phi 40 laws_markText_c := fn_ok hm (D := laws_markText_D) DOk.nil ck_laws_markText _ _ _ _
theorem ck_laws_markProblemS : chkFn Try.prog phi 46 laws_markProblemS_ir = true := by kernel_rfl
theorem ok_laws_markProblemS : FOk Try.prog phi 46 laws_markProblemS_c := fn_ok hm (D := laws_markProblemS_D) (DOk.cons ok_laws_markText DOk.nil) ck_laws_markProblemS _ _ _ _
theorem ck_laws_markInt64S : chkFn Try.prog phi 45 laws_markInt64S_ir = true := by kernel_rfl
theorem ok_laws_markInt64S : FOk Try.prog phi 45 laws_markInt64S_c := fn_ok hm (D := laws_markInt64S_D) DOk.nil ck_laws_markInt64S _ _ _ _
theorem ck_laws_heldInt64S : chkFn Try.prog phi 41 laws_heldInt64S_ir = true := by kernel_rfl
theorem ok_laws_heldInt64S : FOk Try.prog phi 41 laws_heldInt64S_c := fn_ok hm (D := laws_heldInt64S_D) DOk.nil ck_laws_heldInt64S _ _ _ _
theorem ck_laws_FnExactCountProblems : chkFn Try.prog phi 1223 laws_FnExactCountProblems_ir = true := by kernel_rfl
theorem ok_laws_FnExactCountProblems : FOk Try.prog phi 1223 laws_FnExactCountProblems_c := fn_ok hm (D := laws_FnExactCountProblems_D) (DOk.cons ok_laws_heldInt64S (DOk.cons ok_laws_eqInt64S (DOk.cons ok_laws_toProblemS (DOk.cons ok_impl_CountProblems (DOk.cons ok_laws_markInt64S (DOk.cons ok_laws_markProblemS (DOk.cons ok_laws_eqProblemS (DOk.cons ok_spec_CountProblems (DOk.cons ok_laws_szProblemS DOk.nil))))))))) ck_laws_FnExactCountProblems _ _ _ _
theorem law : ∀ x, wfU laws_FnExactCountProblems_c.ps x → ∃ y, laws_FnExactCountProblems_c.f x = some y ∧ resA laws_FnExactCountProblems_c y = ([A.bool true], []) := fun x hx => ⟨true, (laws_FnExactCountProblems_true x.1 hx.1), rfl⟩
theorem own : ownKnob Try.prog.godebug = none := by kernel_rfl
theorem laid : laidOutB Try.prog = true := by kernel_rfl
theorem reads : ∀ t ∈ Try.f6.params.toList, Try.prog.readableRec t = true ∧ t < Try.prog.types.size := by
  have h : (Try.f6.params.toList.all fun t => Try.prog.readableRec t && decide (t < Try.prog.types.size)) = true := by kernel_rfl
  intro t ht
  have := List.all_eq_true.1 h t ht
  simpa only [Bool.and_eq_true, decide_eq_true_eq] using this
theorem spec_eq (H : Type) : ∀ (ds : List (DataW H)), ds.length = Try.f6.params.toList.length → Rows.fnExactCountProblemsSpec.fn H ds = { results := [.lit (.bool true)], args := ds } := by
  intro ds hd
  have hd : ds.length = 1 := hd
  match ds, hd with
  | [d0], _ => rfl
theorem contract (H : Type) (enc : TypeId × Value → H) (W : World) (base : Nat) (args : Array Value) (ds gs : List (DataW H)) (before : List MemPlace)
    (hval : ∀ (j : Nat) t v, Try.f6.params[j]? = some t → args[j]? = some v → Value.okWide Try.prog W .any base t v)
    (hW : DataW.Whole enc Try.prog Try.f6.params.toList Rows.fnExactCountProblemsSpec.vars false W args.toList ds gs before) :
    Calls Try.prog 6 args W fun e W' => ∃ v, e = .returned v ∧ Rows.fnExactCountProblemsSpec.post enc Try.prog Try.f6 false true false false W args v W' :=
  row_contract (φ := phi) (g := 1223) (n := 20) ok_laws_FnExactCountProblems rfl rfl (tb := 4) Try.underlying4 (by kernel_rfl) rfl law laid reads spec_eq W base args ds gs before hval hW
theorem lifted (os : Os) (started : os.Started) (H : Type) (enc : TypeId × Value → H) :
    ReturnsInHanded {} Try.checked os 6 .any (Rows.fnExactCountProblemsSpec.pre6 enc Try.prog Try.f6 Rows.fnExactCountProblemsRow.domain false) (Rows.fnExactCountProblemsSpec.post enc Try.prog Try.f6 false true false false) := by
  refine returnsInHanded_of_change (C := Try.checked) own started (by kernel_rfl) Try.func6
    (ChangeSpec.witness6 (enc := enc) (C := Try.checked) false ⟨#[], #[.slice none 0 0], []⟩ 12 (by kernel_rfl) (by kernel_rfl) (by kernel_rfl) (by kernel_rfl)) ?_
  intro W base args ds gs before hval hW _ _
  exact contract H enc W base args ds gs before hval hW
theorem over : Rows.fnExactCountProblemsRow.holds Try.pinned (OpenSpec.ofChange Rows.fnExactCountProblemsSpec) :=
  OpenClaim.holds_of_wide 6 Try.f6 rfl rfl rfl rfl rfl rfl rfl ⟨rfl, rfl, rfl, rfl, rfl⟩ rfl rfl rfl rfl rfl (by kernel_rfl) Try.func6 (by kernel_rfl)
    (of_decide_eq_true (by kernel_rfl)) (by unfold Func.isWrapper; first | (rw [if_pos (by decide +kernel)]; kernel_rfl) | (rw [if_neg (by decide +kernel)]; exact ⟨rfl, rfl⟩))
    (fun os started H enc _ => lifted os started H enc)
/-- The statement. -/
theorem proved : Rows.FnExactCountProblemsSaid := over
end Go.Proofs.Ytmkgkchbdhfakaa.fnExactCountProblems
