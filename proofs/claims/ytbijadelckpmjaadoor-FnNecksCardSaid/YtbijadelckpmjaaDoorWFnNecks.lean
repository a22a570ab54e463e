/- The law FnNecks answers true for every input, whatever it is, and leaves its arguments as they were. Conditions: none. -/
import Derived.Test.YtbijadelckpmjaaDoorQFnNecks
import Derived.Test.YtbijadelckpmjaaDoorRows
import Derived.Test.YtbijadelckpmjaaDoorL5
import Derived.Test.YtbijadelckpmjaaDoorShelf
import Derived.Test.YtbijadelckpmjaaDoorCards
import Derived.Test.YtbijadelckpmjaaDoorTie
import Derived.LaidMore
import Derived.Lay
import Derived.SevenTiedAt
import Derived.Stop.Joined
import Derived.WalkKit
import Derived.ProofKit
import Derived.OpenShut
import Derived.JoinedOf
import Derived.Handed
set_option linter.unusedVariables false
set_option maxRecDepth 100000
namespace Go.Proofs.YtbijadelckpmjaaDoor.fnNecks
open Go.Ab Go.Ab.P
open Go.ChangeShapes Go.WideShapes Go.ChangeAt Go.RowKit
def phiL : List (Nat × Nat) := [(76, 6), (441, 46), (847, 78), (463, 49), (843, 89), (445, 48), (439, 71), (642, 47), (446, 72), (321, 33), (23, 50), (444, 73), (449, 74), (27, 64), (447, 75), (320, 34), (319, 35), (318, 36), (317, 37), (90, 38), (316, 39), (315, 40), (314, 41), (313, 42), (312, 43), (21, 91), (864, 84), (524, 60), (630, 92), (460, 77), (310, 45), (683, 69), (522, 90), (457, 76), (311, 44), (66, 21), (1230, 5)]
def phi (n : Nat) : Nat := (phiL.lookup n).getD 1000000
theorem hm : Tryd.prog.follows .mixedOrders = true := by kernel_rfl
theorem ck_laws_b10Long : chkFn Tryd.prog phi 76 laws_b10Long_ir = true := by kernel_rfl
theorem ok_laws_b10Long : FOk Tryd.prog phi 76 laws_b10Long_c := fn_ok hm (D := laws_b10Long_D) DOk.nil ck_laws_b10Long _ _ _ _
theorem ck_spec_l00From : chkFn Tryd.prog phi 441 spec_l00From_ir = true := by kernel_rfl
theorem ok_spec_l00From : FOk Tryd.prog phi 441 spec_l00From_c := fn_ok hm (D := spec_l00From_D) DOk.nil ck_spec_l00From _ _ _ _
theorem ck_spec_l00Src_next : chkFn Tryd.prog phi 847 spec_l00Src_next_ir = true := by kernel_rfl
theorem ok_spec_l00Src_next : FOk Tryd.prog phi 847 spec_l00Src_next_c := fn_ok hm (D := spec_l00Src_next_D) DOk.nil ck_spec_l00Src_next _ _ _ _
theorem ck_spec_l00Src_pick : chkFn Tryd.prog phi 463 spec_l00Src_pick_ir = true := by kernel_rfl
theorem ok_spec_l00Src_pick : FOk Tryd.prog phi 463 spec_l00Src_pick_c := fn_ok hm (D := spec_l00Src_pick_D) (DOk.cons ok_spec_l00Src_next DOk.nil) ck_spec_l00Src_pick _ _ _ _
theorem ck_spec_l10DrawOk : chkFn Tryd.prog phi 843 spec_l10DrawOk_ir = true := by kernel_rfl
theorem ok_spec_l10DrawOk : FOk Tryd.prog phi 843 spec_l10DrawOk_c := fn_ok hm (D := spec_l10DrawOk_D) (DOk.cons ok_spec_l00Src_pick DOk.nil) ck_spec_l10DrawOk _ _ _ _
theorem ck_spec_l00Src_among : chkFn Tryd.prog phi 445 spec_l00Src_among_ir = true := by kernel_rfl
theorem ok_spec_l00Src_among : FOk Tryd.prog phi 445 spec_l00Src_among_c := fn_ok hm (D := spec_l00Src_among_D) (DOk.cons ok_spec_l00Src_pick DOk.nil) ck_spec_l00Src_among _ _ _ _
theorem ck_spec_l10Draw : chkFn Tryd.prog phi 439 spec_l10Draw_ir = true := by kernel_rfl
theorem ok_spec_l10Draw : FOk Tryd.prog phi 439 spec_l10Draw_c := fn_ok hm (D := spec_l10Draw_D) (DOk.cons ok_spec_l00Src_among (DOk.cons ok_spec_l00Src_pick (DOk.cons ok_spec_l10DrawOk DOk.nil))) ck_spec_l10Draw _ _ _ _
theorem ck_spec_l00Src_one : chkFn Tryd.prog phi 642 spec_l00Src_one_ir = true := by kernel_rfl
theorem ok_spec_l00Src_one : FOk Tryd.prog phi 642 spec_l00Src_one_c := fn_ok hm (D := spec_l00Src_one_D) (DOk.cons ok_spec_l00Src_pick DOk.nil) ck_spec_l00Src_one _ _ _ _
theorem ck_spec_l10DrawHeight : chkFn Tryd.prog phi 446 spec_l10DrawHeight_ir = true := by kernel_rfl
theorem ok_spec_l10DrawHeight : FOk Tryd.prog phi 446 spec_l10DrawHeight_c := fn_ok hm (D := spec_l10DrawHeight_D) (DOk.cons ok_spec_l00Src_among (DOk.cons ok_spec_l00Src_pick (DOk.cons ok_spec_l00Src_one DOk.nil))) ck_spec_l10DrawHeight _ _ _ _
theorem ck_spec_DrawAngleFor : chkFn Tryd.prog phi 321 spec_DrawAngleFor_ir = true := by kernel_rfl
theorem ok_spec_DrawAngleFor : FOk Tryd.prog phi 321 spec_DrawAngleFor_c := fn_ok hm (D := spec_DrawAngleFor_D) (DOk.cons ok_spec_l10Draw (DOk.cons ok_spec_l00From (DOk.cons ok_spec_l10DrawHeight DOk.nil))) ck_spec_DrawAngleFor _ _ _ _
theorem ck_impl_within : chkFn Tryd.prog phi 23 impl_within_ir = true := by kernel_rfl
theorem ok_impl_within : FOk Tryd.prog phi 23 impl_within_c := fn_ok hm (D := impl_within_D) DOk.nil ck_impl_within _ _ _ _
theorem ck_impl_ValidNeck : chkFn Tryd.prog phi 444 impl_ValidNeck_ir = true := by kernel_rfl
theorem ok_impl_ValidNeck : FOk Tryd.prog phi 444 impl_ValidNeck_c := fn_ok hm (D := impl_ValidNeck_D) (DOk.cons ok_impl_within DOk.nil) ck_impl_ValidNeck _ _ _ _
theorem ck_impl_isHeight : chkFn Tryd.prog phi 449 impl_isHeight_ir = true := by kernel_rfl
theorem ok_impl_isHeight : FOk Tryd.prog phi 449 impl_isHeight_c := fn_ok hm (D := impl_isHeight_D) (DOk.cons ok_impl_within DOk.nil) ck_impl_isHeight _ _ _ _
theorem ck_impl_divRound : chkFn Tryd.prog phi 27 impl_divRound_ir = true := by kernel_rfl
theorem ok_impl_divRound : FOk Tryd.prog phi 27 impl_divRound_c := fn_ok hm (D := impl_divRound_D) DOk.nil ck_impl_divRound _ _ _ _
theorem ck_impl_Neck_projection : chkFn Tryd.prog phi 447 impl_Neck_projection_ir = true := by kernel_rfl
theorem ok_impl_Neck_projection : FOk Tryd.prog phi 447 impl_Neck_projection_c := fn_ok hm (D := impl_Neck_projection_D) (DOk.cons ok_impl_divRound DOk.nil) ck_impl_Neck_projection _ _ _ _
theorem ck_impl_AngleFor : chkFn Tryd.prog phi 320 impl_AngleFor_ir = true := by kernel_rfl
theorem ok_impl_AngleFor : FOk Tryd.prog phi 320 impl_AngleFor_c := fn_ok hm (D := impl_AngleFor_D) (DOk.cons ok_impl_ValidNeck (DOk.cons ok_impl_Neck_projection (DOk.cons ok_impl_isHeight DOk.nil))) ck_impl_AngleFor _ _ _ _
theorem ck_impl_ProjectionOf : chkFn Tryd.prog phi 319 impl_ProjectionOf_ir = true := by kernel_rfl
theorem ok_impl_ProjectionOf : FOk Tryd.prog phi 319 impl_ProjectionOf_c := fn_ok hm (D := impl_ProjectionOf_D) (DOk.cons ok_impl_ValidNeck (DOk.cons ok_impl_Neck_projection DOk.nil)) ck_impl_ProjectionOf _ _ _ _
theorem ck_spec_DrawShimFor : chkFn Tryd.prog phi 318 spec_DrawShimFor_ir = true := by kernel_rfl
theorem ok_spec_DrawShimFor : FOk Tryd.prog phi 318 spec_DrawShimFor_c := fn_ok hm (D := spec_DrawShimFor_D) (DOk.cons ok_spec_l10Draw (DOk.cons ok_spec_l00From (DOk.cons ok_spec_l00Src_among (DOk.cons ok_spec_l10DrawHeight DOk.nil)))) ck_spec_DrawShimFor _ _ _ _
theorem ck_impl_ShimFor : chkFn Tryd.prog phi 317 impl_ShimFor_ir = true := by kernel_rfl
theorem ok_impl_ShimFor : FOk Tryd.prog phi 317 impl_ShimFor_c := fn_ok hm (D := impl_ShimFor_D) (DOk.cons ok_impl_within (DOk.cons ok_impl_divRound (DOk.cons ok_impl_ValidNeck (DOk.cons ok_impl_Neck_projection (DOk.cons ok_impl_isHeight DOk.nil))))) ck_impl_ShimFor _ _ _ _
theorem ck_laws_b10Div : chkFn Tryd.prog phi 90 laws_b10Div_ir = true := by kernel_rfl
theorem ok_laws_b10Div_N : ∀ n, FOk Tryd.prog phi 90 (laws_b10Div_N n)
  | 0 => FOk.none (fn_ok hm (D := []) DOk.nil ck_laws_b10Div [] [] [] []).1
  | n + 1 => by rw [laws_b10Div_N_eq]; exact fn_ok hm (D := laws_b10Div_D n) (DOk.cons (ok_laws_b10Div_N n) DOk.nil) ck_laws_b10Div _ _ _ _
theorem ok_laws_b10Div : FOk Tryd.prog phi 90 laws_b10Div_c := ok_laws_b10Div_N 1000
theorem ck_spec_DrawBridgeFor : chkFn Tryd.prog phi 316 spec_DrawBridgeFor_ir = true := by kernel_rfl
theorem ok_spec_DrawBridgeFor : FOk Tryd.prog phi 316 spec_DrawBridgeFor_c := fn_ok hm (D := spec_DrawBridgeFor_D) (DOk.cons ok_spec_l10Draw (DOk.cons ok_spec_l00From (DOk.cons ok_spec_l00Src_among DOk.nil))) ck_spec_DrawBridgeFor _ _ _ _
theorem ck_impl_BridgeFor : chkFn Tryd.prog phi 315 impl_BridgeFor_ir = true := by kernel_rfl
theorem ok_impl_BridgeFor : FOk Tryd.prog phi 315 impl_BridgeFor_c := fn_ok hm (D := impl_BridgeFor_D) (DOk.cons ok_impl_within (DOk.cons ok_impl_ValidNeck (DOk.cons ok_impl_Neck_projection DOk.nil))) ck_impl_BridgeFor _ _ _ _
theorem ck_impl_ScaleOf : chkFn Tryd.prog phi 314 impl_ScaleOf_ir = true := by kernel_rfl
theorem ok_impl_ScaleOf : FOk Tryd.prog phi 314 impl_ScaleOf_c := fn_ok hm (D := impl_ScaleOf_D) (DOk.cons ok_impl_ValidNeck DOk.nil) ck_impl_ScaleOf _ _ _ _
theorem ck_impl_StringAngle : chkFn Tryd.prog phi 313 impl_StringAngle_ir = true := by kernel_rfl
theorem ok_impl_StringAngle : FOk Tryd.prog phi 313 impl_StringAngle_c := fn_ok hm (D := impl_StringAngle_D) (DOk.cons ok_impl_divRound (DOk.cons ok_impl_ValidNeck (DOk.cons ok_impl_Neck_projection (DOk.cons ok_impl_isHeight DOk.nil)))) ck_impl_StringAngle _ _ _ _
theorem ck_impl_StopRatio : chkFn Tryd.prog phi 312 impl_StopRatio_ir = true := by kernel_rfl
theorem ok_impl_StopRatio : FOk Tryd.prog phi 312 impl_StopRatio_c := fn_ok hm (D := impl_StopRatio_D) (DOk.cons ok_impl_divRound (DOk.cons ok_impl_ValidNeck DOk.nil)) ck_impl_StopRatio _ _ _ _
theorem ck_impl_few : chkFn Tryd.prog phi 21 impl_few_ir = true := by kernel_rfl
theorem ok_impl_few : FOk Tryd.prog phi 21 impl_few_c := fn_ok hm (D := impl_few_D) DOk.nil ck_impl_few _ _ _ _
theorem ok_strconv_FormatInt : FOk Tryd.prog phi 864 strconv_FormatInt_c := formatInt_ok Tryd.laysM173 ⟨1, by kernel_rfl⟩ (by kernel_rfl)
theorem ck_impl_Decimal : chkFn Tryd.prog phi 524 impl_Decimal_ir = true := by kernel_rfl
theorem ok_impl_Decimal : FOk Tryd.prog phi 524 impl_Decimal_c := fn_ok hm (D := impl_Decimal_D) (DOk.cons ok_strconv_FormatInt DOk.nil) ck_impl_Decimal _ _ _ _
theorem ok_strings_Join : FOk Tryd.prog phi 630 strings_Join_c := join_ok Tryd.lays156 Tryd.Builder_Extra_156 (by kernel_rfl)
theorem ck_impl_ListText : chkFn Tryd.prog phi 460 impl_ListText_ir = true := by kernel_rfl
theorem ok_impl_ListText : FOk Tryd.prog phi 460 impl_ListText_c := fn_ok hm (D := impl_ListText_D) (DOk.cons ok_impl_few (DOk.cons ok_impl_within (DOk.cons ok_impl_Decimal (DOk.cons ok_strings_Join DOk.nil)))) ck_impl_ListText _ _ _ _
theorem ck_impl_NeckText : chkFn Tryd.prog phi 310 impl_NeckText_ir = true := by kernel_rfl
theorem ok_impl_NeckText : FOk Tryd.prog phi 310 impl_NeckText_c := fn_ok hm (D := impl_NeckText_D) (DOk.cons ok_impl_ValidNeck (DOk.cons ok_impl_ListText DOk.nil)) ck_impl_NeckText _ _ _ _
theorem ok_strings_Split : FOk Tryd.prog phi 683 strings_Split_c := split_ok Tryd.laysM146 (of_decide_eq_true (by kernel_rfl)) (by kernel_rfl)
section
open Go.Lib
theorem rd_long (s : ByteArray) (w : World) (hl : 18 < (Lib.trimPrefix s.data.toList [45]).length) :
    Calls Tryd.prog 90 #[.string s] w fun e w' => e = .returned (.tuple #[.int .i64 0, .bool false]) ∧ Below w.heap.size w w' := by
  go_enter Tryd.func90, Tryd.ntmps90
  go_wp2_with (go_at_call 56; refine (Tryd.strings_TrimPrefix _ _ _).mono ?_; rintro e w' ⟨rfl, rfl⟩)
  all_goals first
    | (exfalso; omega)
    | (go_ret2; exact ⟨rfl, Below.refl _ _⟩)
theorem rd_bad (s : ByteArray) (w : World) (hl : ¬ 18 < (Lib.trimPrefix s.data.toList [45]).length) (m : Int) (u : TypeId) (hP : Calls Tryd.prog 104 #[.string s, .int .i64 10, .int .i64 64] w fun e w' => ∃ x, e = .returned (.tuple #[.int .i64 m, .iface u x]) ∧ Below w.heap.size w w') :
    Calls Tryd.prog 90 #[.string s] w fun e w' => e = .returned (.tuple #[.int .i64 0, .bool false]) ∧ Below w.heap.size w w' := by
  go_enter Tryd.func90, Tryd.ntmps90
  go_wp2_with (first | (go_at_call 56; refine (Tryd.strings_TrimPrefix _ _ _).mono ?_; rintro e w' ⟨rfl, rfl⟩) | (go_at_call 104; refine hP.mono ?_; rintro e w1 ⟨x, rfl, hw1⟩))
  all_goals first
    | (exfalso; omega)
    | (go_ret2; exact ⟨rfl, hw1⟩)
theorem rd_ok (s : ByteArray) (w : World) (hl : ¬ 18 < (Lib.trimPrefix s.data.toList [45]).length) (v : Int) (hs : Lib.itoa v = s.data.toList) (hP : Calls Tryd.prog 104 #[.string s, .int .i64 10, .int .i64 64] w fun e w' => e = .returned (.tuple #[.int .i64 v, .nilIface]) ∧ Below w.heap.size w w')
    (hF : ∀ w', Below w.heap.size w w' → Calls Tryd.prog 84 #[.int .i64 v, .int .i64 10] w' fun e w'' => e = .returned (.string ⟨(Lib.itoa v).toArray⟩) ∧ Below w'.heap.size w' w'') :
    Calls Tryd.prog 90 #[.string s] w fun e w' => e = .returned (.tuple #[.int .i64 v, .bool true]) ∧ Below w.heap.size w w' := by
  have HS := Lib.hid hs; clear hs
  go_enter Tryd.func90, Tryd.ntmps90
  go_wp2_with (first | (go_at_call 56; refine (Tryd.strings_TrimPrefix _ _ _).mono ?_; rintro e w' ⟨rfl, rfl⟩) | (go_at_call 104; refine hP.mono ?_; rintro e w1 ⟨rfl, hw1⟩) | (go_at_call 84; refine (hF _ hw1).mono ?_; rintro e w2 ⟨rfl, hw2⟩) | go_in)
  all_goals first
    | (exfalso; omega)
    | skip
  · rename_i h
    exfalso
    rw [HS.out] at h
    simp [Lib.toList_data] at h
  · go_ret2; exact ⟨rfl, hw1.trans (hw2.mono hw1.size)⟩
theorem rd_no (s : ByteArray) (w : World) (hl : ¬ 18 < (Lib.trimPrefix s.data.toList [45]).length) (v : Int) (hs : Lib.itoa v ≠ s.data.toList) (hP : Calls Tryd.prog 104 #[.string s, .int .i64 10, .int .i64 64] w fun e w' => e = .returned (.tuple #[.int .i64 v, .nilIface]) ∧ Below w.heap.size w w')
    (hF : ∀ w', Below w.heap.size w w' → Calls Tryd.prog 84 #[.int .i64 v, .int .i64 10] w' fun e w'' => e = .returned (.string ⟨(Lib.itoa v).toArray⟩) ∧ Below w'.heap.size w' w'') :
    Calls Tryd.prog 90 #[.string s] w fun e w' => e = .returned (.tuple #[.int .i64 0, .bool false]) ∧ Below w.heap.size w w' := by
  have HS := Lib.hid hs; clear hs
  go_enter Tryd.func90, Tryd.ntmps90
  go_wp2_with (first | (go_at_call 56; refine (Tryd.strings_TrimPrefix _ _ _).mono ?_; rintro e w' ⟨rfl, rfl⟩) | (go_at_call 104; refine hP.mono ?_; rintro e w1 ⟨rfl, hw1⟩) | (go_at_call 84; refine (hF _ hw1).mono ?_; rintro e w2 ⟨rfl, hw2⟩) | go_in)
  all_goals first
    | (exfalso; omega)
    | skip
  · go_ret2; exact ⟨rfl, hw1.trans (hw2.mono hw1.size)⟩
  · rename_i h
    exfalso
    apply HS.out
    simpa [Lib.toList_data] using h
end
theorem rd_walk : RdWalk Tryd.prog 90 104 84 := ⟨⟨_, Tryd.func90, by decide +kernel, rfl⟩, rd_long, rd_bad, rd_ok, rd_no⟩
theorem ok_impl_ReadDecimal : FOk Tryd.prog phi 522 impl_ReadDecimal_c := readDecimal_ok Tryd.laysC174 Tryd.laysM173 ⟨1, by kernel_rfl⟩ (by kernel_rfl) (by kernel_rfl) rd_walk (by kernel_rfl)
theorem ck_impl_ReadList : chkFn Tryd.prog phi 457 impl_ReadList_ir = true := by kernel_rfl
theorem ok_impl_ReadList : FOk Tryd.prog phi 457 impl_ReadList_c := fn_ok hm (D := impl_ReadList_D) (DOk.cons ok_impl_within (DOk.cons ok_impl_ReadDecimal (DOk.cons ok_strings_Split DOk.nil))) ck_impl_ReadList _ _ _ _
theorem ck_impl_ReadNeck : chkFn Tryd.prog phi 311 impl_ReadNeck_ir = true := by kernel_rfl
theorem ok_impl_ReadNeck : FOk Tryd.prog phi 311 impl_ReadNeck_c := fn_ok hm (D := impl_ReadNeck_D) (DOk.cons ok_impl_ValidNeck (DOk.cons ok_impl_ReadList DOk.nil)) ck_impl_ReadNeck _ _ _ _
theorem ck_laws_b10Abs : chkFn Tryd.prog phi 66 laws_b10Abs_ir = true := by kernel_rfl
theorem ok_laws_b10Abs : FOk Tryd.prog phi 66 laws_b10Abs_c := fn_ok hm (D := laws_b10Abs_D) DOk.nil ck_laws_b10Abs _ _ _ _
theorem ck_laws_FnNecks : chkFn Tryd.prog phi 1230 laws_FnNecks_ir = true := by kernel_rfl
theorem ok_laws_FnNecks : FOk Tryd.prog phi 1230 laws_FnNecks_c := fn_ok hm (D := laws_FnNecks_D) (DOk.cons ok_laws_b10Abs (DOk.cons ok_laws_b10Long (DOk.cons ok_laws_b10Div (DOk.cons ok_impl_NeckText (DOk.cons ok_impl_ReadNeck (DOk.cons ok_impl_StopRatio (DOk.cons ok_impl_StringAngle (DOk.cons ok_impl_ScaleOf (DOk.cons ok_impl_BridgeFor (DOk.cons ok_spec_DrawBridgeFor (DOk.cons ok_impl_ShimFor (DOk.cons ok_spec_DrawShimFor (DOk.cons ok_impl_ProjectionOf (DOk.cons ok_impl_AngleFor (DOk.cons ok_spec_DrawAngleFor DOk.nil))))))))))))))) ck_laws_FnNecks _ _ _ _
theorem law : ∀ x, wfU laws_FnNecks_c.ps x → ∃ y, laws_FnNecks_c.f x = some y ∧ resA laws_FnNecks_c y = ([A.bool true], []) := fun x hx => ⟨true, (laws_FnNecks_true x.1 x.2.1 hx.1 hx.2.1), rfl⟩
theorem own : ownKnob Tryd.prog.godebug = none := by kernel_rfl
theorem laid : laidOutB Tryd.prog = true := by kernel_rfl
theorem reads : ∀ t ∈ Tryd.f5.params.toList, Tryd.prog.readableRec t = true ∧ t < Tryd.prog.types.size := by
  have h : (Tryd.f5.params.toList.all fun t => Tryd.prog.readableRec t && decide (t < Tryd.prog.types.size)) = true := by kernel_rfl
  intro t ht
  have := List.all_eq_true.1 h t ht
  simpa only [Bool.and_eq_true, decide_eq_true_eq] using this
theorem spec_eq (H : Type) : ∀ (ds : List (DataW H)), ds.length = Tryd.f5.params.toList.length → Rows.fnNecksSpec.fn H ds = { results := [.lit (.bool true)], args := ds } := by
  intro ds hd
  have hd : ds.length = 2 := hd
  match ds, hd with
  | [d0, d1], _ => rfl
theorem tab (W : World) (hL : laidMetH Tryd.prog Rows.fnNecksRow.laid W) : ∀ i, Tryd.prog.globalNamed pow10Name = some i → Lib.TabIs Tryd.prog W pow10Name .u64 Lib.pow10Tab := by
  intro i hi
  have hp : (Rows.fnNecksRow.laid.all fun x => x.2.handleName?.isNone) = true := by kernel_rfl
  rw [MakeChecks.laidMetH_plain _ _ _ hp] at hL
  have h1 : laidMet Tryd.prog (("internal/strconv.uint64pow10", Rows.laid_internal_strconv_uint64pow10) :: [("unicode/utf8.acceptRanges", Rows.laid_unicode_utf8_acceptRanges), ("strconv.ErrRange", Rows.laid_strconv_ErrRange), ("strconv.ErrSyntax", Rows.laid_strconv_ErrSyntax), ("unicode/utf8.first", Rows.laid_unicode_utf8_first)]) W := (laidMet.tail (laidMet.tail hL))
  have e : (Rows.laid_internal_strconv_uint64pow10 : DataW Unit) = Lib.tabData .u64 Lib.pow10Tab := by kernel_rfl
  rw [e] at h1
  exact Lib.tabIs_of_head (t := 129) (e := 80) (n := 20) hi (by obtain rfl := Option.some.inj ((show Tryd.prog.globalNamed pow10Name = some 1 by kernel_rfl).symm.trans hi); kernel_rfl) (by kernel_rfl) (by kernel_rfl) (by kernel_rfl) (by kernel_rfl) h1
theorem errs (W : World) (hL : laidMetH Tryd.prog Rows.fnNecksRow.laid W) : ∀ n, errNames.contains n = true → ∀ i, Tryd.prog.globalNamed n = some i → ∃ u v, W.var? Tryd.prog n = some #[.iface u v] := by
  intro n hn i hi
  have hn : n = "strconv.ErrSyntax" ∨ n = "strconv.ErrRange" := by simpa [errNames] using hn
  have hp : (Rows.fnNecksRow.laid.all fun x => x.2.handleName?.isNone) = true := by kernel_rfl
  rw [MakeChecks.laidMetH_plain _ _ _ hp] at hL
  rcases hn with rfl | rfl
  · have h1 : laidMet Tryd.prog (("strconv.ErrSyntax", Rows.laid_strconv_ErrSyntax) :: [("unicode/utf8.first", Rows.laid_unicode_utf8_first)]) W := (laidMet.tail (laidMet.tail (laidMet.tail (laidMet.tail (laidMet.tail hL)))))
    exact laid_iface (ti := 97) h1 ⟨_, _, rfl⟩ hi (by obtain rfl := Option.some.inj ((show Tryd.prog.globalNamed "strconv.ErrSyntax" = some 4 by kernel_rfl).symm.trans hi); kernel_rfl) Tryd.underlying97
  · have h1 : laidMet Tryd.prog (("strconv.ErrRange", Rows.laid_strconv_ErrRange) :: [("strconv.ErrSyntax", Rows.laid_strconv_ErrSyntax), ("unicode/utf8.first", Rows.laid_unicode_utf8_first)]) W := (laidMet.tail (laidMet.tail (laidMet.tail (laidMet.tail hL))))
    exact laid_iface (ti := 97) h1 ⟨_, _, rfl⟩ hi (by obtain rfl := Option.some.inj ((show Tryd.prog.globalNamed "strconv.ErrRange" = some 5 by kernel_rfl).symm.trans hi); kernel_rfl) Tryd.underlying97
theorem contract (H : Type) (enc : TypeId × Value → H) (W : World) (base : Nat) (args : Array Value) (ds gs : List (DataW H)) (before : List MemPlace)
    (hval : ∀ (j : Nat) t v, Tryd.f5.params[j]? = some t → args[j]? = some v → Value.okWide Tryd.prog W .any base t v)
    (hW : DataW.Whole enc Tryd.prog Tryd.f5.params.toList Rows.fnNecksSpec.vars false W args.toList ds gs before) (hL : laidMetH Tryd.prog Rows.fnNecksRow.laid W) (hsh : W.ShapedOpen Tryd.prog) :
    Calls Tryd.prog 5 args W fun e W' => ∃ v, e = .returned v ∧ Rows.fnNecksSpec.post enc Tryd.prog Tryd.f5 false true false false W args v W' :=
  row_contract (φ := phi) (g := 1230) (n := 20) ok_laws_FnNecks rfl rfl (tb := 4) Tryd.underlying4 (by kernel_rfl) rfl law laid reads spec_eq W base args ds gs before hval hW (Glob.start hsh (tab W hL) (errs W hL))
theorem lifted (os : Os) (started : os.Started) (H : Type) (enc : TypeId × Value → H) :
    ReturnsInHanded {} Tryd.checked os 5 .any (fun w args => (Rows.fnNecksSpec.pre enc Tryd.prog Tryd.f5 Rows.fnNecksRow.domain false w args ∧ laidMetH Tryd.prog Rows.fnNecksRow.laid w) ∧ sizedMet enc Tryd.prog Tryd.f5 (OpenSpec.ofChange Rows.fnNecksSpec) false w args) (Rows.fnNecksSpec.post enc Tryd.prog Tryd.f5 false true false false) := by
  refine returnsInHanded_laid (C := Tryd.checked) (laid := Rows.fnNecksRow.laid) own started (by kernel_rfl) Tryd.func5
    (ChangeSpec.witness_shaped (enc := enc) (C := Tryd.checked) (os := os) (X := fun w _ => laidMetH Tryd.prog Rows.fnNecksRow.laid w) false (World.laidAll Tryd.prog os Rows.fnNecksRow.laid) #[.slice none 0 0, .slice none 0 0] 12 (World.laidAll_os _ _ _)
      (World.shaped_of_ZipB (by kernel_rfl) (by kernel_rfl)) (by kernel_rfl) (by kernel_rfl) (by kernel_rfl)
      (by rw [MakeChecks.laidMetH_plain _ _ _ (by kernel_rfl)]; exact laidMet_laidAll _ (by kernel_rfl) (by kernel_rfl))) ?_
  intro W base args ds gs before hval hW hL hsh
  exact contract H enc W base args ds gs before hval hW hL hsh
theorem over : Rows.fnNecksRow.holds Tryd.pinned (OpenSpec.ofChange Rows.fnNecksSpec) :=
  OpenClaim.holds_of_wide 5 Tryd.f5 rfl rfl rfl rfl rfl rfl rfl ⟨rfl, rfl, rfl, rfl, rfl⟩ rfl rfl rfl rfl rfl (by kernel_rfl) Tryd.func5 (by kernel_rfl)
    (of_decide_eq_true (by kernel_rfl)) (by unfold Func.isWrapper; first | (rw [if_pos (by decide +kernel)]; kernel_rfl) | (rw [if_neg (by decide +kernel)]; exact ⟨rfl, rfl⟩))
    (fun os started H enc _ => lifted os started H enc)
theorem card : Rows.FnNecksCardSaid :=
  Claim7.holds_tied_plain_at .later [] [.data, .data, .data, .data, .sentinel, .sentinel, .pinned] true (true, "1392dc62c1b2b191221079823d01ef24d5e6a800f7d6bbbfca5d4126b531323d") true over (fun _ h => by cases h) (by kernel_rfl) (fun _ h => by cases h) fnNecks_row_tie rfl ⟨rfl, rfl⟩ (by kernel_rfl) rfl
    (fun f fn hf hfn => by
      obtain rfl : f = 5 := Option.some.inj ((show Tryd.prog.funcNamed "loop.example/g01061/laws.FnNecks" = some 5 by kernel_rfl).symm.trans hf) |>.symm
      obtain rfl : fn = Tryd.f5 := (Option.some.inj (Tryd.func5.symm.trans hfn)).symm
      exact ⟨by kernel_rfl, fun j t ht => by
        have hm : t ∈ Tryd.f5.params.toList := by simpa using Array.mem_of_getElem? ht
        have hall : (Tryd.f5.params.toList.all fun u => !Tryd.prog.wantsStandIn u) = true := by kernel_rfl
        exact (show Tryd.prog.wantsStandIn t = false by simpa using List.all_eq_true.1 hall t hm)⟩)
    (by kernel_rfl)
/-- The statement. -/
theorem proved : Rows.FnNecksCardSaid := card
end Go.Proofs.YtbijadelckpmjaaDoor.fnNecks
