/- The law FnExactProblemText answers true for every input, whatever it is, and leaves its arguments as they were. Conditions: none. -/
import Derived.Test.YtmkgkchbdhfakaaQFnExactProblemText
import Derived.Test.YtmkgkchbdhfakaaRows
import Derived.WalkKit
import Derived.ProofKit
import Derived.OpenShut
import Derived.JoinedOf
import Derived.Handed
set_option linter.unusedVariables false
set_option maxRecDepth 100000
namespace Go.Proofs.Ytmkgkchbdhfakaa.fnExactProblemText
open Go.Ab Go.Ab.P
open Go.ChangeShapes Go.WideShapes Go.ChangeAt Go.RowKit
def phiL : List (Nat × Nat) := [(10, 8), (7, 10), (1, 53), (3, 32), (2, 33), (9, 9), (4, 67), (5, 54), (6, 34), (8, 11), (64, 3)]
def phi (n : Nat) : Nat := (phiL.lookup n).getD 1000000
theorem hm : Try.prog.follows .mixedOrders = true := by kernel_rfl
theorem ck_laws_szProblem : chkFn Try.prog phi 10 laws_szProblem_ir = true := by kernel_rfl
theorem ok_laws_szProblem : FOk Try.prog phi 10 laws_szProblem_c := fn_ok hm (D := laws_szProblem_D) DOk.nil ck_laws_szProblem _ _ _ _
theorem ck_laws_toProblem : chkFn Try.prog phi 7 laws_toProblem_ir = true := by kernel_rfl
theorem ok_laws_toProblem : FOk Try.prog phi 7 laws_toProblem_c := fn_ok hm (D := laws_toProblem_D) DOk.nil ck_laws_toProblem _ _ _ _
theorem ck_spec_l00In : chkFn Try.prog phi 1 spec_l00In_ir = true := by kernel_rfl
theorem ok_spec_l00In : FOk Try.prog phi 1 spec_l00In_c := fn_ok hm (D := spec_l00In_D) DOk.nil ck_spec_l00In _ _ _ _
theorem ck_spec_l31Kind : chkFn Try.prog phi 3 spec_l31Kind_ir = true := by kernel_rfl
theorem ok_spec_l31Kind : FOk Try.prog phi 3 spec_l31Kind_c := fn_ok hm (D := spec_l31Kind_D) (DOk.cons ok_spec_l00In DOk.nil) ck_spec_l31Kind _ _ _ _
theorem ck_spec_l31Names : chkFn Try.prog phi 2 spec_l31Names_ir = true := by kernel_rfl
theorem ok_spec_l31Names : FOk Try.prog phi 2 spec_l31Names_c := fn_ok hm (D := spec_l31Names_D) DOk.nil ck_spec_l31Names _ _ _ _
theorem ck_spec_ProblemText : chkFn Try.prog phi 9 spec_ProblemText_ir = true := by kernel_rfl
theorem ok_spec_ProblemText : FOk Try.prog phi 9 spec_ProblemText_c := fn_ok hm (D := spec_ProblemText_D) (DOk.cons ok_spec_l31Names (DOk.cons ok_spec_l31Kind DOk.nil)) ck_spec_ProblemText _ _ _ _
theorem ck_impl_at : chkFn Try.prog phi 4 impl_at_ir = true := by kernel_rfl
theorem ok_impl_at : FOk Try.prog phi 4 impl_at_c := fn_ok hm (D := impl_at_D) DOk.nil ck_impl_at _ _ _ _
theorem ck_impl_pick : chkFn Try.prog phi 5 impl_pick_ir = true := by kernel_rfl
theorem ok_impl_pick : FOk Try.prog phi 5 impl_pick_c := fn_ok hm (D := impl_pick_D) (DOk.cons ok_impl_at DOk.nil) ck_impl_pick _ _ _ _
theorem ck_impl_ProblemName : chkFn Try.prog phi 6 impl_ProblemName_ir = true := by kernel_rfl
theorem ok_impl_ProblemName : FOk Try.prog phi 6 impl_ProblemName_c := fn_ok hm (D := impl_ProblemName_D) (DOk.cons ok_impl_pick DOk.nil) ck_impl_ProblemName _ _ _ _
theorem ck_impl_ProblemText : chkFn Try.prog phi 8 impl_ProblemText_ir = true := by kernel_rfl
theorem ok_impl_ProblemText : FOk Try.prog phi 8 impl_ProblemText_c := fn_ok hm (D := impl_ProblemText_D) (DOk.cons ok_impl_ProblemName DOk.nil) ck_impl_ProblemText _ _ _ _
theorem ck_laws_FnExactProblemText : chkFn Try.prog phi 64 laws_FnExactProblemText_ir = true := by kernel_rfl
theorem ok_laws_FnExactProblemText : FOk Try.prog phi 64 laws_FnExactProblemText_c := fn_ok hm (D := laws_FnExactProblemText_D) (DOk.cons ok_laws_toProblem (DOk.cons ok_impl_ProblemText (DOk.cons ok_spec_ProblemText (DOk.cons ok_laws_szProblem DOk.nil)))) ck_laws_FnExactProblemText _ _ _ _
theorem law : ∀ x, wfU laws_FnExactProblemText_c.ps x → ∃ y, laws_FnExactProblemText_c.f x = some y ∧ resA laws_FnExactProblemText_c y = ([A.bool true], []) := fun x hx => ⟨true, (laws_FnExactProblemText_true x.1 hx.1), rfl⟩
theorem own : ownKnob Try.prog.godebug = none := by kernel_rfl
theorem laid : laidOutB Try.prog = true := by kernel_rfl
theorem reads : ∀ t ∈ Try.f3.params.toList, Try.prog.readableRec t = true ∧ t < Try.prog.types.size := by
  have h : (Try.f3.params.toList.all fun t => Try.prog.readableRec t && decide (t < Try.prog.types.size)) = true := by kernel_rfl
  intro t ht
  have := List.all_eq_true.1 h t ht
  simpa only [Bool.and_eq_true, decide_eq_true_eq] using this
theorem spec_eq (H : Type) : ∀ (ds : List (DataW H)), ds.length = Try.f3.params.toList.length → Rows.fnExactProblemTextSpec.fn H ds = { results := [.lit (.bool true)], args := ds } := by
  intro ds hd
  have hd : ds.length = 1 := hd
  match ds, hd with
  | [d0], _ => rfl
theorem contract (H : Type) (enc : TypeId × Value → H) (W : World) (base : Nat) (args : Array Value) (ds gs : List (DataW H)) (before : List MemPlace)
    (hval : ∀ (j : Nat) t v, Try.f3.params[j]? = some t → args[j]? = some v → Value.okWide Try.prog W .any base t v)
    (hW : DataW.Whole enc Try.prog Try.f3.params.toList Rows.fnExactProblemTextSpec.vars false W args.toList ds gs before) :
    Calls Try.prog 3 args W fun e W' => ∃ v, e = .returned v ∧ Rows.fnExactProblemTextSpec.post enc Try.prog Try.f3 false true false false W args v W' :=
  row_contract (φ := phi) (g := 64) (n := 20) ok_laws_FnExactProblemText rfl rfl (tb := 4) Try.underlying4 (by kernel_rfl) rfl law laid reads spec_eq W base args ds gs before hval hW
theorem lifted (os : Os) (started : os.Started) (H : Type) (enc : TypeId × Value → H) :
    ReturnsInHanded {} Try.checked os 3 .any (Rows.fnExactProblemTextSpec.pre6 enc Try.prog Try.f3 Rows.fnExactProblemTextRow.domain false) (Rows.fnExactProblemTextSpec.post enc Try.prog Try.f3 false true false false) := by
  refine returnsInHanded_of_change (C := Try.checked) own started (by kernel_rfl) Try.func3
    (ChangeSpec.witness6 (enc := enc) (C := Try.checked) false ⟨#[], #[.agg #[.int .i64 0, .string ⟨#[]⟩, .string ⟨#[]⟩]], []⟩ 12 (by kernel_rfl) (by kernel_rfl) (by kernel_rfl) (by kernel_rfl)) ?_
  intro W base args ds gs before hval hW _ _
  exact contract H enc W base args ds gs before hval hW
theorem over : Rows.fnExactProblemTextRow.holds Try.pinned (OpenSpec.ofChange Rows.fnExactProblemTextSpec) :=
  OpenClaim.holds_of_wide 3 Try.f3 rfl rfl rfl rfl rfl rfl rfl ⟨rfl, rfl, rfl, rfl, rfl⟩ rfl rfl rfl rfl rfl (by kernel_rfl) Try.func3 (by kernel_rfl)
    (of_decide_eq_true (by kernel_rfl)) (by unfold Func.isWrapper; first | (rw [if_pos (by decide +kernel)]; kernel_rfl) | (rw [if_neg (by decide +kernel)]; exact ⟨rfl, rfl⟩))
    (fun os started H enc _ => lifted os started H enc)
/-- The statement. -/
theorem proved : Rows.FnExactProblemTextSaid := over
end Go.Proofs.Ytmkgkchbdhfakaa.fnExactProblemText
