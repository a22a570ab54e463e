/- The law FnExactFitPegs answers true for every input, whatever it is, and leaves its arguments as they were. Conditions: none. -/
import Derived.Test.YtdejhkhdilcadaaQFnExactFitPegs
import Derived.Test.YtdejhkhdilcadaaRows
import Derived.Test.YtdejhkhdilcadaaL5
import Derived.WalkKit
import Derived.ProofKit
import Derived.OpenShut
import Derived.JoinedOf
import Derived.Handed
set_option linter.unusedVariables false
set_option maxRecDepth 100000
namespace Go.Proofs.Ytdejhkhdilcadaa.fnExactFitPegs
open Go.Ab Go.Ab.P
open Go.ChangeShapes Go.WideShapes Go.ChangeAt Go.RowKit
def phiL : List (Nat × Nat) := [(493, 26), (126, 6), (498, 31), (120, 8), (121, 9), (11, 124), (12, 125), (13, 113), (1, 39), (495, 29), (800, 79), (497, 27), (496, 28), (17, 40), (799, 80), (855, 81), (854, 82), (494, 30), (125, 7), (22, 126), (21, 34), (24, 114), (23, 42), (500, 35), (796, 83), (468, 32), (501, 33), (795, 84), (624, 85), (499, 36), (122, 10), (42, 11), (502, 37), (124, 12), (40, 38), (123, 13), (45, 14), (41, 15), (1240, 3)]
def phi (n : Nat) : Nat := (phiL.lookup n).getD 1000000
theorem hm : Try.prog.follows .mixedOrders = true := by kernel_rfl
theorem ck_laws_szPeg : chkFn Try.prog phi 493 laws_szPeg_ir = true := by kernel_rfl
theorem ok_laws_szPeg : FOk Try.prog phi 493 laws_szPeg_c := fn_ok hm (D := laws_szPeg_D) DOk.nil ck_laws_szPeg _ _ _ _
theorem ck_laws_szPegS : chkFn Try.prog phi 126 laws_szPegS_ir = true := by kernel_rfl
theorem ok_laws_szPegS : FOk Try.prog phi 126 laws_szPegS_c := fn_ok hm (D := laws_szPegS_D) (DOk.cons ok_laws_szPeg DOk.nil) ck_laws_szPegS _ _ _ _
theorem ck_laws_toPeg : chkFn Try.prog phi 498 laws_toPeg_ir = true := by kernel_rfl
theorem ok_laws_toPeg : FOk Try.prog phi 498 laws_toPeg_c := fn_ok hm (D := laws_toPeg_D) DOk.nil ck_laws_toPeg _ _ _ _
theorem ck_laws_toPegS : chkFn Try.prog phi 120 laws_toPegS_ir = true := by kernel_rfl
theorem ok_laws_toPegS : FOk Try.prog phi 120 laws_toPegS_c := fn_ok hm (D := laws_toPegS_D) (DOk.cons ok_laws_toPeg DOk.nil) ck_laws_toPegS _ _ _ _
theorem ck_laws_toInt64S : chkFn Try.prog phi 121 laws_toInt64S_ir = true := by kernel_rfl
theorem ok_laws_toInt64S : FOk Try.prog phi 121 laws_toInt64S_c := fn_ok hm (D := laws_toInt64S_D) DOk.nil ck_laws_toInt64S _ _ _ _
theorem ck_spec_l01Small : chkFn Try.prog phi 11 spec_l01Small_ir = true := by kernel_rfl
theorem ok_spec_l01Small : FOk Try.prog phi 11 spec_l01Small_c := fn_ok hm (D := spec_l01Small_D) DOk.nil ck_spec_l01Small _ _ _ _
theorem ck_spec_l01Digit : chkFn Try.prog phi 12 spec_l01Digit_ir = true := by kernel_rfl
theorem ok_spec_l01Digit : FOk Try.prog phi 12 spec_l01Digit_c := fn_ok hm (D := spec_l01Digit_D) DOk.nil ck_spec_l01Digit _ _ _ _
theorem ck_spec_l01Name : chkFn Try.prog phi 13 spec_l01Name_ir = true := by kernel_rfl
theorem ok_spec_l01Name : FOk Try.prog phi 13 spec_l01Name_c := fn_ok hm (D := spec_l01Name_D) (DOk.cons ok_spec_l01Small (DOk.cons ok_spec_l01Digit DOk.nil)) ck_spec_l01Name _ _ _ _
theorem ck_spec_l00In : chkFn Try.prog phi 1 spec_l00In_ir = true := by kernel_rfl
theorem ok_spec_l00In : FOk Try.prog phi 1 spec_l00In_c := fn_ok hm (D := spec_l00In_D) DOk.nil ck_spec_l00In _ _ _ _
theorem ck_spec_l12Hole : chkFn Try.prog phi 495 spec_l12Hole_ir = true := by kernel_rfl
theorem ok_spec_l12Hole : FOk Try.prog phi 495 spec_l12Hole_c := fn_ok hm (D := spec_l12Hole_D) (DOk.cons ok_spec_l00In DOk.nil) ck_spec_l12Hole _ _ _ _
theorem ck_spec_l12One : chkFn Try.prog phi 800 spec_l12One_ir = true := by kernel_rfl
theorem ok_spec_l12One : FOk Try.prog phi 800 spec_l12One_c := fn_ok hm (D := spec_l12One_D) (DOk.cons ok_spec_l00In (DOk.cons ok_spec_l01Name (DOk.cons ok_spec_l12Hole DOk.nil))) ck_spec_l12One _ _ _ _
theorem ck_spec_l12Ok : chkFn Try.prog phi 497 spec_l12Ok_ir = true := by kernel_rfl
theorem ok_spec_l12Ok : FOk Try.prog phi 497 spec_l12Ok_c := fn_ok hm (D := spec_l12Ok_D) (DOk.cons ok_spec_l12One DOk.nil) ck_spec_l12Ok _ _ _ _
theorem ck_spec_l12Way : chkFn Try.prog phi 496 spec_l12Way_ir = true := by kernel_rfl
theorem ok_spec_l12Way : FOk Try.prog phi 496 spec_l12Way_c := fn_ok hm (D := spec_l12Way_D) (DOk.cons ok_spec_l00In DOk.nil) ck_spec_l12Way _ _ _ _
theorem ck_spec_l00Max : chkFn Try.prog phi 17 spec_l00Max_ir = true := by kernel_rfl
theorem ok_spec_l00Max : FOk Try.prog phi 17 spec_l00Max_c := fn_ok hm (D := spec_l00Max_D) DOk.nil ck_spec_l00Max _ _ _ _
theorem ck_spec_l12In : chkFn Try.prog phi 799 spec_l12In_ir = true := by kernel_rfl
theorem ok_spec_l12In : FOk Try.prog phi 799 spec_l12In_c := fn_ok hm (D := spec_l12In_D) (DOk.cons ok_spec_l00Max DOk.nil) ck_spec_l12In _ _ _ _
theorem ck_spec_l00Has : chkFn Try.prog phi 855 spec_l00Has_ir = true := by kernel_rfl
theorem ok_spec_l00Has : FOk Try.prog phi 855 spec_l00Has_c := fn_ok hm (D := spec_l00Has_D) DOk.nil ck_spec_l00Has _ _ _ _
theorem ck_spec_l00Own : chkFn Try.prog phi 854 spec_l00Own_ir = true := by kernel_rfl
theorem ok_spec_l00Own : FOk Try.prog phi 854 spec_l00Own_c := fn_ok hm (D := spec_l00Own_D) DOk.nil ck_spec_l00Own _ _ _ _
theorem ck_spec_l12Fit : chkFn Try.prog phi 494 spec_l12Fit_ir = true := by kernel_rfl
theorem ok_spec_l12Fit_N : ∀ n, FOk Try.prog phi 494 (spec_l12Fit_N n)
  | 0 => FOk.none (fn_ok hm (D := []) DOk.nil ck_spec_l12Fit [] [] [] []).1
  | n + 1 => by rw [spec_l12Fit_N_eq]; exact fn_ok hm (D := spec_l12Fit_D n) (DOk.cons (ok_spec_l12Fit_N n) (DOk.cons ok_spec_l12In (DOk.cons ok_spec_l00Own (DOk.cons ok_spec_l00Has DOk.nil)))) ck_spec_l12Fit _ _ _ _
theorem ok_spec_l12Fit : FOk Try.prog phi 494 spec_l12Fit_c := ok_spec_l12Fit_N 1000
theorem ck_spec_FitPegs : chkFn Try.prog phi 125 spec_FitPegs_ir = true := by kernel_rfl
theorem ok_spec_FitPegs : FOk Try.prog phi 125 spec_FitPegs_c := fn_ok hm (D := spec_FitPegs_D) (DOk.cons ok_spec_l12Fit (DOk.cons ok_spec_l12Hole (DOk.cons ok_spec_l12Way (DOk.cons ok_spec_l12Ok DOk.nil)))) ck_spec_FitPegs _ _ _ _
theorem ck_impl_isDigit : chkFn Try.prog phi 22 impl_isDigit_ir = true := by kernel_rfl
theorem ok_impl_isDigit : FOk Try.prog phi 22 impl_isDigit_c := fn_ok hm (D := impl_isDigit_D) DOk.nil ck_impl_isDigit _ _ _ _
theorem ck_impl_few : chkFn Try.prog phi 21 impl_few_ir = true := by kernel_rfl
theorem ok_impl_few : FOk Try.prog phi 21 impl_few_c := fn_ok hm (D := impl_few_D) DOk.nil ck_impl_few _ _ _ _
theorem ck_impl_IsName : chkFn Try.prog phi 24 impl_IsName_ir = true := by kernel_rfl
theorem ok_impl_IsName : FOk Try.prog phi 24 impl_IsName_c := fn_ok hm (D := impl_IsName_D) (DOk.cons ok_impl_few (DOk.cons ok_impl_isDigit DOk.nil)) ck_impl_IsName _ _ _ _
theorem ck_impl_within : chkFn Try.prog phi 23 impl_within_ir = true := by kernel_rfl
theorem ok_impl_within : FOk Try.prog phi 23 impl_within_c := fn_ok hm (D := impl_within_D) DOk.nil ck_impl_within _ _ _ _
theorem ck_impl_isHole : chkFn Try.prog phi 500 impl_isHole_ir = true := by kernel_rfl
theorem ok_impl_isHole : FOk Try.prog phi 500 impl_isHole_c := fn_ok hm (D := impl_isHole_D) (DOk.cons ok_impl_within DOk.nil) ck_impl_isHole _ _ _ _
theorem ck_impl_Peg_valid : chkFn Try.prog phi 796 impl_Peg_valid_ir = true := by kernel_rfl
theorem ok_impl_Peg_valid : FOk Try.prog phi 796 impl_Peg_valid_c := fn_ok hm (D := impl_Peg_valid_D) (DOk.cons ok_impl_within (DOk.cons ok_impl_IsName (DOk.cons ok_impl_isHole DOk.nil))) ck_impl_Peg_valid _ _ _ _
theorem ck_impl_ValidPegs : chkFn Try.prog phi 468 impl_ValidPegs_ir = true := by kernel_rfl
theorem ok_impl_ValidPegs : FOk Try.prog phi 468 impl_ValidPegs_c := fn_ok hm (D := impl_ValidPegs_D) (DOk.cons ok_impl_few (DOk.cons ok_impl_Peg_valid DOk.nil)) ck_impl_ValidPegs _ _ _ _
theorem ck_impl_isWay : chkFn Try.prog phi 501 impl_isWay_ir = true := by kernel_rfl
theorem ok_impl_isWay : FOk Try.prog phi 501 impl_isWay_c := fn_ok hm (D := impl_isWay_D) (DOk.cons ok_impl_within DOk.nil) ck_impl_isWay _ _ _ _
theorem ck_impl_Peg_wayIn : chkFn Try.prog phi 795 impl_Peg_wayIn_ir = true := by kernel_rfl
theorem ok_impl_Peg_wayIn : FOk Try.prog phi 795 impl_Peg_wayIn_c := fn_ok hm (D := impl_Peg_wayIn_D) DOk.nil ck_impl_Peg_wayIn _ _ _ _
theorem ck_impl_clone_int64_ : chkFn Try.prog phi 624 impl_clone_int64__ir = true := by kernel_rfl
theorem ok_impl_clone_int64_ : FOk Try.prog phi 624 impl_clone_int64__c := fn_ok hm (D := impl_clone_int64__D) DOk.nil ck_impl_clone_int64_ _ _ _ _
theorem ck_impl_fit : chkFn Try.prog phi 499 impl_fit_ir = true := by kernel_rfl
theorem ok_impl_fit_N : ∀ n, FOk Try.prog phi 499 (impl_fit_N n)
  | 0 => FOk.none (fn_ok hm (D := []) DOk.nil ck_impl_fit [] [] [] []).1
  | n + 1 => by rw [impl_fit_N_eq]; exact fn_ok hm (D := impl_fit_D n) (DOk.cons (ok_impl_fit_N n) (DOk.cons ok_impl_clone_int64_ (DOk.cons ok_impl_Peg_wayIn DOk.nil))) ck_impl_fit _ _ _ _
theorem ok_impl_fit : FOk Try.prog phi 499 impl_fit_c := ok_impl_fit_N 1000
theorem ck_impl_FitPegs : chkFn Try.prog phi 122 impl_FitPegs_ir = true := by kernel_rfl
theorem ok_impl_FitPegs : FOk Try.prog phi 122 impl_FitPegs_c := fn_ok hm (D := impl_FitPegs_D) (DOk.cons ok_impl_few (DOk.cons ok_impl_ValidPegs (DOk.cons ok_impl_fit (DOk.cons ok_impl_isHole (DOk.cons ok_impl_isWay DOk.nil))))) ck_impl_FitPegs _ _ _ _
theorem ck_laws_eqInt64S : chkFn Try.prog phi 42 laws_eqInt64S_ir = true := by kernel_rfl
theorem ok_laws_eqInt64S : FOk Try.prog phi 42 laws_eqInt64S_c := fn_ok hm (D := laws_eqInt64S_D) DOk.nil ck_laws_eqInt64S _ _ _ _
theorem ck_laws_eqPeg : chkFn Try.prog phi 502 laws_eqPeg_ir = true := by kernel_rfl
theorem ok_laws_eqPeg : FOk Try.prog phi 502 laws_eqPeg_c := fn_ok hm (D := laws_eqPeg_D) DOk.nil ck_laws_eqPeg _ _ _ _
theorem ck_laws_eqPegS : chkFn Try.prog phi 124 laws_eqPegS_ir = true := by kernel_rfl
theorem ok_laws_eqPegS : FOk Try.prog phi 124 laws_eqPegS_c := fn_ok hm (D := laws_eqPegS_D) (DOk.cons ok_laws_eqPeg DOk.nil) ck_laws_eqPegS _ _ _ _
theorem ck_laws_markText : chkFn Try.prog phi 40 laws_markText_ir = true := by kernel_rfl
theorem ok_laws_markText : FOk Try.prog phi 40 laws_markText_c := fn_ok hm (D := laws_markText_D) DOk.nil ck_laws_markText _ _ _ _
theorem ck_laws_markPegS : chkFn Try.prog phi 123 laws_markPegS_ir = true := by kernel_rfl
theorem ok_laws_markPegS : FOk Try.prog phi 123 laws_markPegS_c := fn_ok hm (D := laws_markPegS_D) (DOk.cons ok_laws_markText DOk.nil) ck_laws_markPegS _ _ _ _
theorem ck_laws_markInt64S : chkFn Try.prog phi 45 laws_markInt64S_ir = true := by kernel_rfl
theorem ok_laws_markInt64S : FOk Try.prog phi 45 laws_markInt64S_c := fn_ok hm (D := laws_markInt64S_D) DOk.nil ck_laws_markInt64S _ _ _ _
theorem ck_laws_heldInt64S : chkFn Try.prog phi 41 laws_heldInt64S_ir = true := by kernel_rfl
theorem ok_laws_heldInt64S : FOk Try.prog phi 41 laws_heldInt64S_c := fn_ok hm (D := laws_heldInt64S_D) DOk.nil ck_laws_heldInt64S _ _ _ _
theorem ck_laws_FnExactFitPegs : chkFn Try.prog phi 1240 laws_FnExactFitPegs_ir = true := by kernel_rfl
theorem ok_laws_FnExactFitPegs : FOk Try.prog phi 1240 laws_FnExactFitPegs_c := fn_ok hm (D := laws_FnExactFitPegs_D) (DOk.cons ok_laws_heldInt64S (DOk.cons ok_laws_eqInt64S (DOk.cons ok_laws_markInt64S (DOk.cons ok_laws_toPegS (DOk.cons ok_laws_toInt64S (DOk.cons ok_impl_FitPegs (DOk.cons ok_laws_markPegS (DOk.cons ok_laws_eqPegS (DOk.cons ok_spec_FitPegs (DOk.cons ok_laws_szPegS DOk.nil)))))))))) ck_laws_FnExactFitPegs _ _ _ _
theorem law : ∀ x, wfU laws_FnExactFitPegs_c.ps x → ∃ y, laws_FnExactFitPegs_c.f x = some y ∧ resA laws_FnExactFitPegs_c y = ([A.bool true], []) := fun x hx => ⟨true, (laws_FnExactFitPegs_true x.1 x.2.1 x.2.2.1 hx.1 hx.2.1 hx.2.2.1), rfl⟩
theorem own : ownKnob Try.prog.godebug = none := by kernel_rfl
theorem laid : laidOutB Try.prog = true := by kernel_rfl
theorem reads : ∀ t ∈ Try.f3.params.toList, Try.prog.readableRec t = true ∧ t < Try.prog.types.size := by
  have h : (Try.f3.params.toList.all fun t => Try.prog.readableRec t && decide (t < Try.prog.types.size)) = true := by kernel_rfl
  intro t ht
  have := List.all_eq_true.1 h t ht
  simpa only [Bool.and_eq_true, decide_eq_true_eq] using this
theorem spec_eq (H : Type) : ∀ (ds : List (DataW H)), ds.length = Try.f3.params.toList.length → Rows.fnExactFitPegsSpec.fn H ds = { results := [.lit (.bool true)], args := ds } := by
  intro ds hd
  have hd : ds.length = 3 := hd
  match ds, hd with
  | [d0, d1, d2], _ => rfl
theorem tab (W : World) : ∀ i, Try.prog.globalNamed pow10Name = some i → Lib.TabIs Try.prog W pow10Name .u64 Lib.pow10Tab := by
  intro i hi
  have h : Try.prog.globalNamed pow10Name = none := by kernel_rfl
  rw [h] at hi; cases hi
theorem errs (W : World) : ∀ n, errNames.contains n = true → ∀ i, Try.prog.globalNamed n = some i → ∃ u v, W.var? Try.prog n = some #[.iface u v] := by
  intro n hn i hi
  have hn : n = "strconv.ErrSyntax" ∨ n = "strconv.ErrRange" := by simpa [errNames] using hn
  rcases hn with rfl | rfl
  · have h : Try.prog.globalNamed "strconv.ErrSyntax" = none := by kernel_rfl
    rw [h] at hi; cases hi
  · have h : Try.prog.globalNamed "strconv.ErrRange" = none := by kernel_rfl
    rw [h] at hi; cases hi
theorem contract (H : Type) (enc : TypeId × Value → H) (W : World) (base : Nat) (args : Array Value) (ds gs : List (DataW H)) (before : List MemPlace)
    (hval : ∀ (j : Nat) t v, Try.f3.params[j]? = some t → args[j]? = some v → Value.okWide Try.prog W .any base t v)
    (hW : DataW.Whole enc Try.prog Try.f3.params.toList Rows.fnExactFitPegsSpec.vars false W args.toList ds gs before) (hsh : W.ShapedOpen Try.prog) :
    Calls Try.prog 3 args W fun e W' => ∃ v, e = .returned v ∧ Rows.fnExactFitPegsSpec.post enc Try.prog Try.f3 false true false false W args v W' :=
  row_contract (φ := phi) (g := 1240) (n := 20) ok_laws_FnExactFitPegs rfl rfl (tb := 4) Try.underlying4 (by kernel_rfl) rfl law laid reads spec_eq W base args ds gs before hval hW (Glob.start hsh (tab W) (errs W))
theorem lifted (os : Os) (started : os.Started) (H : Type) (enc : TypeId × Value → H) :
    ReturnsInHanded {} Try.checked os 3 .any (Rows.fnExactFitPegsSpec.pre6 enc Try.prog Try.f3 Rows.fnExactFitPegsRow.domain false) (Rows.fnExactFitPegsSpec.post enc Try.prog Try.f3 false true false false) := by
  refine returnsInHanded_of_change_shaped (C := Try.checked) own started (by kernel_rfl) Try.func3
    (ChangeSpec.witness6 (enc := enc) (C := Try.checked) false ⟨#[], #[.slice none 0 0, .slice none 0 0, .int .i64 0], []⟩ 12 (by kernel_rfl) (by kernel_rfl) (by kernel_rfl) (by kernel_rfl)) ?_
  intro W base args ds gs before hval hW _ _ hsh _
  exact contract H enc W base args ds gs before hval hW hsh
theorem over : Rows.fnExactFitPegsRow.holds Try.pinned (OpenSpec.ofChange Rows.fnExactFitPegsSpec) :=
  OpenClaim.holds_of_wide 3 Try.f3 rfl rfl rfl rfl rfl rfl rfl ⟨rfl, rfl, rfl, rfl, rfl⟩ rfl rfl rfl rfl rfl (by kernel_rfl) Try.func3 (by kernel_rfl)
    (of_decide_eq_true (by kernel_rfl)) (by unfold Func.isWrapper; first | (rw [if_pos (by decide +kernel)]; kernel_rfl) | (rw [if_neg (by decide +kernel)]; exact ⟨rfl, rfl⟩))
    (fun os started H enc _ => lifted os started H enc)
/-- The statement. -/
theorem proved : Rows.FnExactFitPegsSaid := over
end Go.Proofs.Ytdejhkhdilcadaa.fnExactFitPegs
