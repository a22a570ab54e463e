/- The law FnUnits answers true for every input, whatever it is, and leaves its arguments as they were. Conditions: none. -/
import Derived.Test.YtbijadelckpmjaaDoorQFnUnits
import Derived.Test.YtbijadelckpmjaaDoorRows
import Derived.Test.YtbijadelckpmjaaDoorL5
import Derived.Test.YtbijadelckpmjaaDoorShelf
import Derived.Test.YtbijadelckpmjaaDoorCards
import Derived.Test.YtbijadelckpmjaaDoorTie
import Derived.LaidMore
import Derived.Lay
import Derived.SevenTiedAt
import Derived.Stop.Joined
import Derived.WalkKit
import Derived.ProofKit
import Derived.OpenShut
import Derived.JoinedOf
import Derived.Handed
set_option linter.unusedVariables false
set_option maxRecDepth 100000
namespace Go.Proofs.YtbijadelckpmjaaDoor.fnUnits
open Go.Ab Go.Ab.P
open Go.ChangeShapes Go.WideShapes Go.ChangeAt Go.RowKit
def phiL : List (Nat × Nat) := [(76, 6), (441, 46), (847, 78), (463, 49), (642, 47), (445, 48), (255, 7), (23, 50), (864, 84), (524, 60), (518, 79), (668, 51), (254, 8), (523, 55), (22, 82), (673, 57), (669, 52), (253, 9), (671, 53), (670, 54), (252, 10), (251, 11), (674, 56), (672, 58), (250, 12), (675, 59), (249, 13), (248, 14), (247, 15), (1, 85), (677, 61), (726, 86), (676, 62), (246, 16), (245, 17), (244, 18), (678, 63), (243, 19), (27, 64), (242, 20), (66, 21), (241, 22), (240, 23), (1229, 3)]
def phi (n : Nat) : Nat := (phiL.lookup n).getD 1000000
theorem hm : Tryd.prog.follows .mixedOrders = true := by kernel_rfl
theorem ck_laws_b10Long : chkFn Tryd.prog phi 76 laws_b10Long_ir = true := by kernel_rfl
theorem ok_laws_b10Long : FOk Tryd.prog phi 76 laws_b10Long_c := fn_ok hm (D := laws_b10Long_D) DOk.nil ck_laws_b10Long _ _ _ _
theorem ck_spec_l00From : chkFn Tryd.prog phi 441 spec_l00From_ir = true := by kernel_rfl
theorem ok_spec_l00From : FOk Tryd.prog phi 441 spec_l00From_c := fn_ok hm (D := spec_l00From_D) DOk.nil ck_spec_l00From _ _ _ _
theorem ck_spec_l00Src_next : chkFn Tryd.prog phi 847 spec_l00Src_next_ir = true := by kernel_rfl
theorem ok_spec_l00Src_next : FOk Tryd.prog phi 847 spec_l00Src_next_c := fn_ok hm (D := spec_l00Src_next_D) DOk.nil ck_spec_l00Src_next _ _ _ _
theorem ck_spec_l00Src_pick : chkFn Tryd.prog phi 463 spec_l00Src_pick_ir = true := by kernel_rfl
theorem ok_spec_l00Src_pick : FOk Tryd.prog phi 463 spec_l00Src_pick_c := fn_ok hm (D := spec_l00Src_pick_D) (DOk.cons ok_spec_l00Src_next DOk.nil) ck_spec_l00Src_pick _ _ _ _
theorem ck_spec_l00Src_one : chkFn Tryd.prog phi 642 spec_l00Src_one_ir = true := by kernel_rfl
theorem ok_spec_l00Src_one : FOk Tryd.prog phi 642 spec_l00Src_one_c := fn_ok hm (D := spec_l00Src_one_D) (DOk.cons ok_spec_l00Src_pick DOk.nil) ck_spec_l00Src_one _ _ _ _
theorem ck_spec_l00Src_among : chkFn Tryd.prog phi 445 spec_l00Src_among_ir = true := by kernel_rfl
theorem ok_spec_l00Src_among : FOk Tryd.prog phi 445 spec_l00Src_among_c := fn_ok hm (D := spec_l00Src_among_D) (DOk.cons ok_spec_l00Src_pick DOk.nil) ck_spec_l00Src_among _ _ _ _
theorem ck_spec_DrawClockText : chkFn Tryd.prog phi 255 spec_DrawClockText_ir = true := by kernel_rfl
theorem ok_spec_DrawClockText : FOk Tryd.prog phi 255 spec_DrawClockText_c := fn_ok hm (D := spec_DrawClockText_D) (DOk.cons ok_spec_l00From (DOk.cons ok_spec_l00Src_among (DOk.cons ok_spec_l00Src_pick (DOk.cons ok_spec_l00Src_one DOk.nil)))) ck_spec_DrawClockText _ _ _ _
theorem ck_impl_within : chkFn Tryd.prog phi 23 impl_within_ir = true := by kernel_rfl
theorem ok_impl_within : FOk Tryd.prog phi 23 impl_within_c := fn_ok hm (D := impl_within_D) DOk.nil ck_impl_within _ _ _ _
theorem ok_strconv_FormatInt : FOk Tryd.prog phi 864 strconv_FormatInt_c := formatInt_ok Tryd.laysM173 ⟨1, by kernel_rfl⟩ (by kernel_rfl)
theorem ck_impl_Decimal : chkFn Tryd.prog phi 524 impl_Decimal_ir = true := by kernel_rfl
theorem ok_impl_Decimal : FOk Tryd.prog phi 524 impl_Decimal_c := fn_ok hm (D := impl_Decimal_D) (DOk.cons ok_strconv_FormatInt DOk.nil) ck_impl_Decimal _ _ _ _
theorem ok_strings_Repeat : FOk Tryd.prog phi 518 strings_Repeat_c := repeat_ok Tryd.lays105 Tryd.Builder_Extra_105 (by kernel_rfl)
theorem ck_impl_padded : chkFn Tryd.prog phi 668 impl_padded_ir = true := by kernel_rfl
theorem ok_impl_padded : FOk Tryd.prog phi 668 impl_padded_c := fn_ok hm (D := impl_padded_D) (DOk.cons ok_strings_Repeat (DOk.cons ok_impl_Decimal DOk.nil)) ck_impl_padded _ _ _ _
theorem ck_impl_ClockText : chkFn Tryd.prog phi 254 impl_ClockText_ir = true := by kernel_rfl
theorem ok_impl_ClockText : FOk Tryd.prog phi 254 impl_ClockText_c := fn_ok hm (D := impl_ClockText_D) (DOk.cons ok_impl_within (DOk.cons ok_impl_padded DOk.nil)) ck_impl_ClockText _ _ _ _
theorem ok_strings_Cut : FOk Tryd.prog phi 523 strings_Cut_c := cut_ok Tryd.laysM145 (of_decide_eq_true (by kernel_rfl)) (by kernel_rfl)
theorem ck_impl_isDigit : chkFn Tryd.prog phi 22 impl_isDigit_ir = true := by kernel_rfl
theorem ok_impl_isDigit : FOk Tryd.prog phi 22 impl_isDigit_c := fn_ok hm (D := impl_isDigit_D) DOk.nil ck_impl_isDigit _ _ _ _
theorem ck_impl_digitsOf : chkFn Tryd.prog phi 673 impl_digitsOf_ir = true := by kernel_rfl
theorem ok_impl_digitsOf : FOk Tryd.prog phi 673 impl_digitsOf_c := fn_ok hm (D := impl_digitsOf_D) (DOk.cons ok_impl_isDigit DOk.nil) ck_impl_digitsOf _ _ _ _
theorem ck_impl_pairOf : chkFn Tryd.prog phi 669 impl_pairOf_ir = true := by kernel_rfl
theorem ok_impl_pairOf : FOk Tryd.prog phi 669 impl_pairOf_c := fn_ok hm (D := impl_pairOf_D) (DOk.cons ok_strings_Cut (DOk.cons ok_impl_digitsOf DOk.nil)) ck_impl_pairOf _ _ _ _
theorem ck_impl_ReadClock : chkFn Tryd.prog phi 253 impl_ReadClock_ir = true := by kernel_rfl
theorem ok_impl_ReadClock : FOk Tryd.prog phi 253 impl_ReadClock_c := fn_ok hm (D := impl_ReadClock_D) (DOk.cons ok_impl_ClockText (DOk.cons ok_impl_pairOf DOk.nil)) ck_impl_ReadClock _ _ _ _
theorem ck_spec_l02DrawNumber : chkFn Tryd.prog phi 671 spec_l02DrawNumber_ir = true := by kernel_rfl
theorem ok_spec_l02DrawNumber : FOk Tryd.prog phi 671 spec_l02DrawNumber_c := fn_ok hm (D := spec_l02DrawNumber_D) (DOk.cons ok_spec_l00Src_among (DOk.cons ok_spec_l00Src_pick (DOk.cons ok_spec_l00Src_one DOk.nil))) ck_spec_l02DrawNumber _ _ _ _
theorem ck_spec_l02DrawPlaces : chkFn Tryd.prog phi 670 spec_l02DrawPlaces_ir = true := by kernel_rfl
theorem ok_spec_l02DrawPlaces : FOk Tryd.prog phi 670 spec_l02DrawPlaces_c := fn_ok hm (D := spec_l02DrawPlaces_D) (DOk.cons ok_spec_l00Src_among DOk.nil) ck_spec_l02DrawPlaces _ _ _ _
theorem ck_spec_DrawFixedText : chkFn Tryd.prog phi 252 spec_DrawFixedText_ir = true := by kernel_rfl
theorem ok_spec_DrawFixedText : FOk Tryd.prog phi 252 spec_DrawFixedText_c := fn_ok hm (D := spec_DrawFixedText_D) (DOk.cons ok_spec_l00From (DOk.cons ok_spec_l02DrawPlaces (DOk.cons ok_spec_l02DrawNumber DOk.nil))) ck_spec_DrawFixedText _ _ _ _
theorem ck_impl_FixedText : chkFn Tryd.prog phi 251 impl_FixedText_ir = true := by kernel_rfl
theorem ok_impl_FixedText : FOk Tryd.prog phi 251 impl_FixedText_c := fn_ok hm (D := impl_FixedText_D) (DOk.cons ok_impl_within (DOk.cons ok_impl_padded DOk.nil)) ck_impl_FixedText _ _ _ _
theorem ok_strings_TrimPrefix : FOk Tryd.prog phi 674 strings_TrimPrefix_c := trimPrefix_ok Tryd.lays101 (by kernel_rfl)
theorem ok_strings_HasPrefix : FOk Tryd.prog phi 672 strings_HasPrefix_c := hasPrefix_ok Tryd.lays99 (by kernel_rfl)
theorem ck_impl_ReadFixed : chkFn Tryd.prog phi 250 impl_ReadFixed_ir = true := by kernel_rfl
theorem ok_impl_ReadFixed : FOk Tryd.prog phi 250 impl_ReadFixed_c := fn_ok hm (D := impl_ReadFixed_D) (DOk.cons ok_impl_FixedText (DOk.cons ok_strings_Cut (DOk.cons ok_strings_HasPrefix (DOk.cons ok_impl_digitsOf (DOk.cons ok_strings_TrimPrefix DOk.nil))))) ck_impl_ReadFixed _ _ _ _
theorem ck_spec_l02DrawMass : chkFn Tryd.prog phi 675 spec_l02DrawMass_ir = true := by kernel_rfl
theorem ok_spec_l02DrawMass : FOk Tryd.prog phi 675 spec_l02DrawMass_c := fn_ok hm (D := spec_l02DrawMass_D) (DOk.cons ok_spec_l00Src_among (DOk.cons ok_spec_l00Src_pick (DOk.cons ok_spec_l00Src_one DOk.nil))) ck_spec_l02DrawMass _ _ _ _
theorem ck_spec_DrawLapText : chkFn Tryd.prog phi 249 spec_DrawLapText_ir = true := by kernel_rfl
theorem ok_spec_DrawLapText : FOk Tryd.prog phi 249 spec_DrawLapText_c := fn_ok hm (D := spec_DrawLapText_D) (DOk.cons ok_spec_l00From (DOk.cons ok_spec_l02DrawMass DOk.nil)) ck_spec_DrawLapText _ _ _ _
theorem ck_impl_LapText : chkFn Tryd.prog phi 248 impl_LapText_ir = true := by kernel_rfl
theorem ok_impl_LapText : FOk Tryd.prog phi 248 impl_LapText_c := fn_ok hm (D := impl_LapText_D) (DOk.cons ok_impl_within (DOk.cons ok_impl_Decimal (DOk.cons ok_impl_padded DOk.nil))) ck_impl_LapText _ _ _ _
theorem ck_impl_ReadLap : chkFn Tryd.prog phi 247 impl_ReadLap_ir = true := by kernel_rfl
theorem ok_impl_ReadLap : FOk Tryd.prog phi 247 impl_ReadLap_c := fn_ok hm (D := impl_ReadLap_D) (DOk.cons ok_impl_LapText (DOk.cons ok_impl_pairOf DOk.nil)) ck_impl_ReadLap _ _ _ _
theorem ck_spec_l00In : chkFn Tryd.prog phi 1 spec_l00In_ir = true := by kernel_rfl
theorem ok_spec_l00In : FOk Tryd.prog phi 1 spec_l00In_c := fn_ok hm (D := spec_l00In_D) DOk.nil ck_spec_l00In _ _ _ _
theorem ck_spec_l02Mass : chkFn Tryd.prog phi 677 spec_l02Mass_ir = true := by kernel_rfl
theorem ok_spec_l02Mass : FOk Tryd.prog phi 677 spec_l02Mass_c := fn_ok hm (D := spec_l02Mass_D) (DOk.cons ok_spec_l00In DOk.nil) ck_spec_l02Mass _ _ _ _
theorem ck_spec_l01Dec : chkFn Tryd.prog phi 726 spec_l01Dec_ir = true := by kernel_rfl
theorem ok_spec_l01Dec : FOk Tryd.prog phi 726 spec_l01Dec_c := fn_ok hm (D := spec_l01Dec_D) DOk.nil ck_spec_l01Dec _ _ _ _
theorem ck_spec_l02Lap : chkFn Tryd.prog phi 676 spec_l02Lap_ir = true := by kernel_rfl
theorem ok_spec_l02Lap : FOk Tryd.prog phi 676 spec_l02Lap_c := fn_ok hm (D := spec_l02Lap_D) (DOk.cons ok_spec_l01Dec DOk.nil) ck_spec_l02Lap _ _ _ _
theorem ck_spec_LapText : chkFn Tryd.prog phi 246 spec_LapText_ir = true := by kernel_rfl
theorem ok_spec_LapText : FOk Tryd.prog phi 246 spec_LapText_c := fn_ok hm (D := spec_LapText_D) (DOk.cons ok_spec_l02Lap (DOk.cons ok_spec_l02Mass DOk.nil)) ck_spec_LapText _ _ _ _
theorem ck_spec_DrawLengthText : chkFn Tryd.prog phi 245 spec_DrawLengthText_ir = true := by kernel_rfl
theorem ok_spec_DrawLengthText : FOk Tryd.prog phi 245 spec_DrawLengthText_c := fn_ok hm (D := spec_DrawLengthText_D) (DOk.cons ok_spec_l00From (DOk.cons ok_spec_l02DrawMass DOk.nil)) ck_spec_DrawLengthText _ _ _ _
theorem ck_impl_LengthText : chkFn Tryd.prog phi 244 impl_LengthText_ir = true := by kernel_rfl
theorem ok_impl_LengthText : FOk Tryd.prog phi 244 impl_LengthText_c := fn_ok hm (D := impl_LengthText_D) (DOk.cons ok_impl_within (DOk.cons ok_impl_FixedText DOk.nil)) ck_impl_LengthText _ _ _ _
theorem ok_strings_CutSuffix : FOk Tryd.prog phi 678 strings_CutSuffix_c := cutSuffix_ok Tryd.lays104 (by kernel_rfl)
theorem ck_impl_ReadLength : chkFn Tryd.prog phi 243 impl_ReadLength_ir = true := by kernel_rfl
theorem ok_impl_ReadLength : FOk Tryd.prog phi 243 impl_ReadLength_c := fn_ok hm (D := impl_ReadLength_D) (DOk.cons ok_impl_ReadFixed (DOk.cons ok_strings_CutSuffix DOk.nil)) ck_impl_ReadLength _ _ _ _
theorem ck_impl_divRound : chkFn Tryd.prog phi 27 impl_divRound_ir = true := by kernel_rfl
theorem ok_impl_divRound : FOk Tryd.prog phi 27 impl_divRound_c := fn_ok hm (D := impl_divRound_D) DOk.nil ck_impl_divRound _ _ _ _
theorem ck_impl_InchParts : chkFn Tryd.prog phi 242 impl_InchParts_ir = true := by kernel_rfl
theorem ok_impl_InchParts : FOk Tryd.prog phi 242 impl_InchParts_c := fn_ok hm (D := impl_InchParts_D) (DOk.cons ok_impl_within (DOk.cons ok_impl_divRound DOk.nil)) ck_impl_InchParts _ _ _ _
theorem ck_laws_b10Abs : chkFn Tryd.prog phi 66 laws_b10Abs_ir = true := by kernel_rfl
theorem ok_laws_b10Abs : FOk Tryd.prog phi 66 laws_b10Abs_c := fn_ok hm (D := laws_b10Abs_D) DOk.nil ck_laws_b10Abs _ _ _ _
theorem ck_spec_DrawPiecesFrom : chkFn Tryd.prog phi 241 spec_DrawPiecesFrom_ir = true := by kernel_rfl
theorem ok_spec_DrawPiecesFrom : FOk Tryd.prog phi 241 spec_DrawPiecesFrom_c := fn_ok hm (D := spec_DrawPiecesFrom_D) (DOk.cons ok_spec_l00From (DOk.cons ok_spec_l00Src_among (DOk.cons ok_spec_l00Src_pick (DOk.cons ok_spec_l00Src_one (DOk.cons ok_spec_l02DrawMass DOk.nil))))) ck_spec_DrawPiecesFrom _ _ _ _
theorem ck_impl_PiecesFrom : chkFn Tryd.prog phi 240 impl_PiecesFrom_ir = true := by kernel_rfl
theorem ok_impl_PiecesFrom : FOk Tryd.prog phi 240 impl_PiecesFrom_c := fn_ok hm (D := impl_PiecesFrom_D) (DOk.cons ok_impl_within DOk.nil) ck_impl_PiecesFrom _ _ _ _
theorem ck_laws_FnUnits : chkFn Tryd.prog phi 1229 laws_FnUnits_ir = true := by kernel_rfl
theorem ok_laws_FnUnits : FOk Tryd.prog phi 1229 laws_FnUnits_c := fn_ok hm (D := laws_FnUnits_D) (DOk.cons ok_laws_b10Abs (DOk.cons ok_laws_b10Long (DOk.cons ok_impl_PiecesFrom (DOk.cons ok_spec_DrawPiecesFrom (DOk.cons ok_impl_InchParts (DOk.cons ok_impl_ReadLength (DOk.cons ok_impl_LengthText (DOk.cons ok_spec_DrawLengthText (DOk.cons ok_spec_LapText (DOk.cons ok_impl_ReadLap (DOk.cons ok_impl_LapText (DOk.cons ok_spec_DrawLapText (DOk.cons ok_impl_ReadFixed (DOk.cons ok_impl_FixedText (DOk.cons ok_spec_DrawFixedText (DOk.cons ok_impl_ReadClock (DOk.cons ok_impl_ClockText (DOk.cons ok_spec_DrawClockText DOk.nil)))))))))))))))))) ck_laws_FnUnits _ _ _ _
theorem law : ∀ x, wfU laws_FnUnits_c.ps x → ∃ y, laws_FnUnits_c.f x = some y ∧ resA laws_FnUnits_c y = ([A.bool true], []) := fun x hx => ⟨true, (laws_FnUnits_true x.1 x.2.1 hx.1 hx.2.1), rfl⟩
theorem own : ownKnob Tryd.prog.godebug = none := by kernel_rfl
theorem laid : laidOutB Tryd.prog = true := by kernel_rfl
theorem reads : ∀ t ∈ Tryd.f3.params.toList, Tryd.prog.readableRec t = true ∧ t < Tryd.prog.types.size := by
  have h : (Tryd.f3.params.toList.all fun t => Tryd.prog.readableRec t && decide (t < Tryd.prog.types.size)) = true := by kernel_rfl
  intro t ht
  have := List.all_eq_true.1 h t ht
  simpa only [Bool.and_eq_true, decide_eq_true_eq] using this
theorem spec_eq (H : Type) : ∀ (ds : List (DataW H)), ds.length = Tryd.f3.params.toList.length → Rows.fnUnitsSpec.fn H ds = { results := [.lit (.bool true)], args := ds } := by
  intro ds hd
  have hd : ds.length = 2 := hd
  match ds, hd with
  | [d0, d1], _ => rfl
theorem tab (W : World) (hL : laidMetH Tryd.prog Rows.fnUnitsRow.laid W) : ∀ i, Tryd.prog.globalNamed pow10Name = some i → Lib.TabIs Tryd.prog W pow10Name .u64 Lib.pow10Tab := by
  intro i hi
  have hp : (Rows.fnUnitsRow.laid.all fun x => x.2.handleName?.isNone) = true := by kernel_rfl
  rw [MakeChecks.laidMetH_plain _ _ _ hp] at hL
  have h1 : laidMet Tryd.prog (("internal/strconv.uint64pow10", Rows.laid_internal_strconv_uint64pow10) :: []) W := (laidMet.tail (laidMet.tail hL))
  have e : (Rows.laid_internal_strconv_uint64pow10 : DataW Unit) = Lib.tabData .u64 Lib.pow10Tab := by kernel_rfl
  rw [e] at h1
  exact Lib.tabIs_of_head (t := 129) (e := 80) (n := 20) hi (by obtain rfl := Option.some.inj ((show Tryd.prog.globalNamed pow10Name = some 1 by kernel_rfl).symm.trans hi); kernel_rfl) (by kernel_rfl) (by kernel_rfl) (by kernel_rfl) (by kernel_rfl) h1
theorem contract (H : Type) (enc : TypeId × Value → H) (W : World) (base : Nat) (args : Array Value) (ds gs : List (DataW H)) (before : List MemPlace)
    (hval : ∀ (j : Nat) t v, Tryd.f3.params[j]? = some t → args[j]? = some v → Value.okWide Tryd.prog W .any base t v)
    (hW : DataW.Whole enc Tryd.prog Tryd.f3.params.toList Rows.fnUnitsSpec.vars false W args.toList ds gs before) (hL : laidMetH Tryd.prog Rows.fnUnitsRow.laid W) (hsh : W.ShapedOpen Tryd.prog) :
    Calls Tryd.prog 3 args W fun e W' => ∃ v, e = .returned v ∧ Rows.fnUnitsSpec.post enc Tryd.prog Tryd.f3 false true false false W args v W' :=
  row_contract (φ := phi) (g := 1229) (n := 20) ok_laws_FnUnits rfl rfl (tb := 4) Tryd.underlying4 (by kernel_rfl) rfl law laid reads spec_eq W base args ds gs before hval hW (Glob.start hsh (tab W hL))
theorem lifted (os : Os) (started : os.Started) (H : Type) (enc : TypeId × Value → H) :
    ReturnsInHanded {} Tryd.checked os 3 .any (fun w args => (Rows.fnUnitsSpec.pre enc Tryd.prog Tryd.f3 Rows.fnUnitsRow.domain false w args ∧ laidMetH Tryd.prog Rows.fnUnitsRow.laid w) ∧ sizedMet enc Tryd.prog Tryd.f3 (OpenSpec.ofChange Rows.fnUnitsSpec) false w args) (Rows.fnUnitsSpec.post enc Tryd.prog Tryd.f3 false true false false) := by
  refine returnsInHanded_laid (C := Tryd.checked) (laid := Rows.fnUnitsRow.laid) own started (by kernel_rfl) Tryd.func3
    (ChangeSpec.witness_shaped (enc := enc) (C := Tryd.checked) (os := os) (X := fun w _ => laidMetH Tryd.prog Rows.fnUnitsRow.laid w) false (World.laidAll Tryd.prog os Rows.fnUnitsRow.laid) #[.slice none 0 0, .slice none 0 0] 12 (World.laidAll_os _ _ _)
      (World.shaped_of_ZipB (by kernel_rfl) (by kernel_rfl)) (by kernel_rfl) (by kernel_rfl) (by kernel_rfl)
      (by rw [MakeChecks.laidMetH_plain _ _ _ (by kernel_rfl)]; exact laidMet_laidAll _ (by kernel_rfl) (by kernel_rfl))) ?_
  intro W base args ds gs before hval hW hL hsh
  exact contract H enc W base args ds gs before hval hW hL hsh
theorem over : Rows.fnUnitsRow.holds Tryd.pinned (OpenSpec.ofChange Rows.fnUnitsSpec) :=
  OpenClaim.holds_of_wide 3 Tryd.f3 rfl rfl rfl rfl rfl rfl rfl ⟨rfl, rfl, rfl, rfl, rfl⟩ rfl rfl rfl rfl rfl (by kernel_rfl) Tryd.func3 (by kernel_rfl)
    (of_decide_eq_true (by kernel_rfl)) (by unfold Func.isWrapper; first | (rw [if_pos (by decide +kernel)]; kernel_rfl) | (rw [if_neg (by decide +kernel)]; exact ⟨rfl, rfl⟩))
    (fun os started H enc _ => lifted os started H enc)
theorem card : Rows.FnUnitsCardSaid :=
  Claim7.holds_tied_plain_at .later [] [.data, .data, .data] true (true, "1392dc62c1b2b191221079823d01ef24d5e6a800f7d6bbbfca5d4126b531323d") true over (fun _ h => by cases h) (by kernel_rfl) (fun _ h => by cases h) fnUnits_row_tie rfl ⟨rfl, rfl⟩ (by kernel_rfl) rfl
    (fun f fn hf hfn => by
      obtain rfl : f = 3 := Option.some.inj ((show Tryd.prog.funcNamed "loop.example/g01061/laws.FnUnits" = some 3 by kernel_rfl).symm.trans hf) |>.symm
      obtain rfl : fn = Tryd.f3 := (Option.some.inj (Tryd.func3.symm.trans hfn)).symm
      exact ⟨by kernel_rfl, fun j t ht => by
        have hm : t ∈ Tryd.f3.params.toList := by simpa using Array.mem_of_getElem? ht
        have hall : (Tryd.f3.params.toList.all fun u => !Tryd.prog.wantsStandIn u) = true := by kernel_rfl
        exact (show Tryd.prog.wantsStandIn t = false by simpa using List.all_eq_true.1 hall t hm)⟩)
    (by kernel_rfl)
/-- The statement. -/
theorem proved : Rows.FnUnitsCardSaid := card
end Go.Proofs.YtbijadelckpmjaaDoor.fnUnits
