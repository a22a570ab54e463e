/- The law FnTones answers true for every input, whatever it is, and leaves its arguments as they were. Conditions: none. -/
import Derived.Test.YtnfdkcpnoolmfaaDoorQFnTones
import Derived.Test.YtnfdkcpnoolmfaaDoorRows
import Derived.Test.YtnfdkcpnoolmfaaDoorL5
import Derived.Test.YtnfdkcpnoolmfaaDoorShelf
import Derived.Test.YtnfdkcpnoolmfaaDoorCards
import Derived.Test.YtnfdkcpnoolmfaaDoorTie
import Derived.LaidMore
import Derived.Lay
import Derived.SevenTiedAt
import Derived.Stop.Joined
import Derived.WalkKit
import Derived.ProofKit
import Derived.OpenShut
import Derived.JoinedOf
import Derived.Handed
set_option linter.unusedVariables false
set_option maxRecDepth 100000
namespace Go.Proofs.YtnfdkcpnoolmfaaDoor.fnTones
open Go.Ab Go.Ab.P
open Go.ChangeShapes Go.WideShapes Go.ChangeAt Go.RowKit
def phiL : List (Nat × Nat) := [(76, 4), (441, 14), (847, 38), (463, 32), (642, 31), (445, 27), (544, 15), (171, 5), (23, 19), (545, 16), (475, 18), (448, 17), (169, 6), (168, 7), (4, 33), (5, 20), (864, 34), (524, 21), (170, 8), (1, 35), (477, 22), (476, 23), (101, 9), (66, 10), (547, 25), (548, 24), (546, 26), (167, 11), (22, 40), (21, 41), (24, 36), (551, 28), (550, 29), (27, 37), (549, 30), (166, 12), (165, 13), (1227, 3)]
def phi (n : Nat) : Nat := (phiL.lookup n).getD 1000000
theorem hm : Tryd.prog.follows .mixedOrders = true := by kernel_rfl
theorem ck_laws_b10Long : chkFn Tryd.prog phi 76 laws_b10Long_ir = true := by kernel_rfl
theorem ok_laws_b10Long : FOk Tryd.prog phi 76 laws_b10Long_c := fn_ok hm (D := laws_b10Long_D) DOk.nil ck_laws_b10Long _ _ _ _
theorem ck_spec_l00From : chkFn Tryd.prog phi 441 spec_l00From_ir = true := by kernel_rfl
theorem ok_spec_l00From : FOk Tryd.prog phi 441 spec_l00From_c := fn_ok hm (D := spec_l00From_D) DOk.nil ck_spec_l00From _ _ _ _
theorem ck_spec_l00Src_next : chkFn Tryd.prog phi 847 spec_l00Src_next_ir = true := by kernel_rfl
theorem ok_spec_l00Src_next : FOk Tryd.prog phi 847 spec_l00Src_next_c := fn_ok hm (D := spec_l00Src_next_D) DOk.nil ck_spec_l00Src_next _ _ _ _
theorem ck_spec_l00Src_pick : chkFn Tryd.prog phi 463 spec_l00Src_pick_ir = true := by kernel_rfl
theorem ok_spec_l00Src_pick : FOk Tryd.prog phi 463 spec_l00Src_pick_c := fn_ok hm (D := spec_l00Src_pick_D) (DOk.cons ok_spec_l00Src_next DOk.nil) ck_spec_l00Src_pick _ _ _ _
theorem ck_spec_l00Src_one : chkFn Tryd.prog phi 642 spec_l00Src_one_ir = true := by kernel_rfl
theorem ok_spec_l00Src_one : FOk Tryd.prog phi 642 spec_l00Src_one_c := fn_ok hm (D := spec_l00Src_one_D) (DOk.cons ok_spec_l00Src_pick DOk.nil) ck_spec_l00Src_one _ _ _ _
theorem ck_spec_l00Src_among : chkFn Tryd.prog phi 445 spec_l00Src_among_ir = true := by kernel_rfl
theorem ok_spec_l00Src_among : FOk Tryd.prog phi 445 spec_l00Src_among_c := fn_ok hm (D := spec_l00Src_among_D) (DOk.cons ok_spec_l00Src_pick DOk.nil) ck_spec_l00Src_among _ _ _ _
theorem ck_spec_l16DrawTone : chkFn Tryd.prog phi 544 spec_l16DrawTone_ir = true := by kernel_rfl
theorem ok_spec_l16DrawTone : FOk Tryd.prog phi 544 spec_l16DrawTone_c := fn_ok hm (D := spec_l16DrawTone_D) (DOk.cons ok_spec_l00Src_among (DOk.cons ok_spec_l00Src_pick (DOk.cons ok_spec_l00Src_one DOk.nil))) ck_spec_l16DrawTone _ _ _ _
theorem ck_spec_DrawNoteOf : chkFn Tryd.prog phi 171 spec_DrawNoteOf_ir = true := by kernel_rfl
theorem ok_spec_DrawNoteOf : FOk Tryd.prog phi 171 spec_DrawNoteOf_c := fn_ok hm (D := spec_DrawNoteOf_D) (DOk.cons ok_spec_l00From (DOk.cons ok_spec_l16DrawTone DOk.nil)) ck_spec_DrawNoteOf _ _ _ _
theorem ck_impl_within : chkFn Tryd.prog phi 23 impl_within_ir = true := by kernel_rfl
theorem ok_impl_within : FOk Tryd.prog phi 23 impl_within_c := fn_ok hm (D := impl_within_D) DOk.nil ck_impl_within _ _ _ _
theorem ck_impl_isTone : chkFn Tryd.prog phi 545 impl_isTone_ir = true := by kernel_rfl
theorem ok_impl_isTone : FOk Tryd.prog phi 545 impl_isTone_c := fn_ok hm (D := impl_isTone_D) (DOk.cons ok_impl_within DOk.nil) ck_impl_isTone _ _ _ _
theorem ck_impl_noteTone : chkFn Tryd.prog phi 475 impl_noteTone_ir = true := by kernel_rfl
theorem ok_impl_noteTone : FOk Tryd.prog phi 475 impl_noteTone_c := fn_ok hm (D := impl_noteTone_D) DOk.nil ck_impl_noteTone _ _ _ _
theorem ck_impl_distance : chkFn Tryd.prog phi 448 impl_distance_ir = true := by kernel_rfl
theorem ok_impl_distance : FOk Tryd.prog phi 448 impl_distance_c := fn_ok hm (D := impl_distance_D) DOk.nil ck_impl_distance _ _ _ _
theorem ck_impl_NoteOf : chkFn Tryd.prog phi 169 impl_NoteOf_ir = true := by kernel_rfl
theorem ok_impl_NoteOf : FOk Tryd.prog phi 169 impl_NoteOf_c := fn_ok hm (D := impl_NoteOf_D) (DOk.cons ok_impl_distance (DOk.cons ok_impl_noteTone (DOk.cons ok_impl_isTone DOk.nil))) ck_impl_NoteOf _ _ _ _
theorem ck_impl_NoteTone : chkFn Tryd.prog phi 168 impl_NoteTone_ir = true := by kernel_rfl
theorem ok_impl_NoteTone : FOk Tryd.prog phi 168 impl_NoteTone_c := fn_ok hm (D := impl_NoteTone_D) (DOk.cons ok_impl_within (DOk.cons ok_impl_noteTone DOk.nil)) ck_impl_NoteTone _ _ _ _
theorem ck_impl_at : chkFn Tryd.prog phi 4 impl_at_ir = true := by kernel_rfl
theorem ok_impl_at : FOk Tryd.prog phi 4 impl_at_c := fn_ok hm (D := impl_at_D) DOk.nil ck_impl_at _ _ _ _
theorem ck_impl_pick : chkFn Tryd.prog phi 5 impl_pick_ir = true := by kernel_rfl
theorem ok_impl_pick : FOk Tryd.prog phi 5 impl_pick_c := fn_ok hm (D := impl_pick_D) (DOk.cons ok_impl_at DOk.nil) ck_impl_pick _ _ _ _
theorem ok_strconv_FormatInt : FOk Tryd.prog phi 864 strconv_FormatInt_c := formatInt_ok Tryd.laysM173 ⟨0, by kernel_rfl⟩ (by kernel_rfl)
theorem ck_impl_Decimal : chkFn Tryd.prog phi 524 impl_Decimal_ir = true := by kernel_rfl
theorem ok_impl_Decimal : FOk Tryd.prog phi 524 impl_Decimal_c := fn_ok hm (D := impl_Decimal_D) (DOk.cons ok_strconv_FormatInt DOk.nil) ck_impl_Decimal _ _ _ _
theorem ck_impl_NoteName : chkFn Tryd.prog phi 170 impl_NoteName_ir = true := by kernel_rfl
theorem ok_impl_NoteName : FOk Tryd.prog phi 170 impl_NoteName_c := fn_ok hm (D := impl_NoteName_D) (DOk.cons ok_impl_pick (DOk.cons ok_impl_within (DOk.cons ok_impl_Decimal DOk.nil))) ck_impl_NoteName _ _ _ _
theorem ck_spec_l00In : chkFn Tryd.prog phi 1 spec_l00In_ir = true := by kernel_rfl
theorem ok_spec_l00In : FOk Tryd.prog phi 1 spec_l00In_c := fn_ok hm (D := spec_l00In_D) DOk.nil ck_spec_l00In _ _ _ _
theorem ck_spec_l16Note : chkFn Tryd.prog phi 477 spec_l16Note_ir = true := by kernel_rfl
theorem ok_spec_l16Note : FOk Tryd.prog phi 477 spec_l16Note_c := fn_ok hm (D := spec_l16Note_D) (DOk.cons ok_spec_l00In DOk.nil) ck_spec_l16Note _ _ _ _
theorem ck_spec_l16NoteTone : chkFn Tryd.prog phi 476 spec_l16NoteTone_ir = true := by kernel_rfl
theorem ok_spec_l16NoteTone : FOk Tryd.prog phi 476 spec_l16NoteTone_c := fn_ok hm (D := spec_l16NoteTone_D) DOk.nil ck_spec_l16NoteTone _ _ _ _
theorem ck_spec_NoteTone : chkFn Tryd.prog phi 101 spec_NoteTone_ir = true := by kernel_rfl
theorem ok_spec_NoteTone : FOk Tryd.prog phi 101 spec_NoteTone_c := fn_ok hm (D := spec_NoteTone_D) (DOk.cons ok_spec_l16NoteTone (DOk.cons ok_spec_l16Note DOk.nil)) ck_spec_NoteTone _ _ _ _
theorem ck_laws_b10Abs : chkFn Tryd.prog phi 66 laws_b10Abs_ir = true := by kernel_rfl
theorem ok_laws_b10Abs : FOk Tryd.prog phi 66 laws_b10Abs_c := fn_ok hm (D := laws_b10Abs_D) DOk.nil ck_laws_b10Abs _ _ _ _
theorem ck_spec_l16DrawOne : chkFn Tryd.prog phi 547 spec_l16DrawOne_ir = true := by kernel_rfl
theorem ok_spec_l16DrawOne : FOk Tryd.prog phi 547 spec_l16DrawOne_c := fn_ok hm (D := spec_l16DrawOne_D) (DOk.cons ok_spec_l00Src_pick DOk.nil) ck_spec_l16DrawOne _ _ _ _
theorem ck_spec_l16Bent : chkFn Tryd.prog phi 548 spec_l16Bent_ir = true := by kernel_rfl
theorem ok_spec_l16Bent : FOk Tryd.prog phi 548 spec_l16Bent_c := fn_ok hm (D := spec_l16Bent_D) (DOk.cons ok_spec_l00Src_among (DOk.cons ok_spec_l00Src_pick DOk.nil)) ck_spec_l16Bent _ _ _ _
theorem ck_spec_l16DrawStrength : chkFn Tryd.prog phi 546 spec_l16DrawStrength_ir = true := by kernel_rfl
theorem ok_spec_l16DrawStrength : FOk Tryd.prog phi 546 spec_l16DrawStrength_c := fn_ok hm (D := spec_l16DrawStrength_D) (DOk.cons ok_spec_l00Src_among (DOk.cons ok_spec_l00Src_pick (DOk.cons ok_spec_l00Src_one DOk.nil))) ck_spec_l16DrawStrength _ _ _ _
theorem ck_spec_DrawCyclesTo : chkFn Tryd.prog phi 167 spec_DrawCyclesTo_ir = true := by kernel_rfl
theorem ok_spec_DrawCyclesTo : FOk Tryd.prog phi 167 spec_DrawCyclesTo_c := fn_ok hm (D := spec_DrawCyclesTo_D) (DOk.cons ok_spec_l00From (DOk.cons ok_spec_l00Src_among (DOk.cons ok_spec_l16DrawStrength (DOk.cons ok_spec_l16DrawOne (DOk.cons ok_spec_l16Bent DOk.nil))))) ck_spec_DrawCyclesTo _ _ _ _
theorem ck_impl_isDigit : chkFn Tryd.prog phi 22 impl_isDigit_ir = true := by kernel_rfl
theorem ok_impl_isDigit : FOk Tryd.prog phi 22 impl_isDigit_c := fn_ok hm (D := impl_isDigit_D) DOk.nil ck_impl_isDigit _ _ _ _
theorem ck_impl_few : chkFn Tryd.prog phi 21 impl_few_ir = true := by kernel_rfl
theorem ok_impl_few : FOk Tryd.prog phi 21 impl_few_c := fn_ok hm (D := impl_few_D) DOk.nil ck_impl_few _ _ _ _
theorem ck_impl_IsName : chkFn Tryd.prog phi 24 impl_IsName_ir = true := by kernel_rfl
theorem ok_impl_IsName : FOk Tryd.prog phi 24 impl_IsName_c := fn_ok hm (D := impl_IsName_D) (DOk.cons ok_impl_few (DOk.cons ok_impl_isDigit DOk.nil)) ck_impl_IsName _ _ _ _
theorem ck_impl_Mode_valid : chkFn Tryd.prog phi 551 impl_Mode_valid_ir = true := by kernel_rfl
theorem ok_impl_Mode_valid : FOk Tryd.prog phi 551 impl_Mode_valid_c := fn_ok hm (D := impl_Mode_valid_D) (DOk.cons ok_impl_within (DOk.cons ok_impl_IsName (DOk.cons ok_impl_isTone DOk.nil))) ck_impl_Mode_valid _ _ _ _
theorem ck_impl_isStrength : chkFn Tryd.prog phi 550 impl_isStrength_ir = true := by kernel_rfl
theorem ok_impl_isStrength : FOk Tryd.prog phi 550 impl_isStrength_c := fn_ok hm (D := impl_isStrength_D) (DOk.cons ok_impl_within DOk.nil) ck_impl_isStrength _ _ _ _
theorem ck_impl_divRound : chkFn Tryd.prog phi 27 impl_divRound_ir = true := by kernel_rfl
theorem ok_impl_divRound : FOk Tryd.prog phi 27 impl_divRound_c := fn_ok hm (D := impl_divRound_D) DOk.nil ck_impl_divRound _ _ _ _
theorem ck_impl_Mode_fall : chkFn Tryd.prog phi 549 impl_Mode_fall_ir = true := by kernel_rfl
theorem ok_impl_Mode_fall : FOk Tryd.prog phi 549 impl_Mode_fall_c := fn_ok hm (D := impl_Mode_fall_D) (DOk.cons ok_impl_divRound DOk.nil) ck_impl_Mode_fall _ _ _ _
theorem ck_impl_CyclesTo : chkFn Tryd.prog phi 166 impl_CyclesTo_ir = true := by kernel_rfl
theorem ok_impl_CyclesTo : FOk Tryd.prog phi 166 impl_CyclesTo_c := fn_ok hm (D := impl_CyclesTo_D) (DOk.cons ok_impl_Mode_fall (DOk.cons ok_impl_isStrength (DOk.cons ok_impl_Mode_valid DOk.nil))) ck_impl_CyclesTo _ _ _ _
theorem ck_impl_RingAfter : chkFn Tryd.prog phi 165 impl_RingAfter_ir = true := by kernel_rfl
theorem ok_impl_RingAfter : FOk Tryd.prog phi 165 impl_RingAfter_c := fn_ok hm (D := impl_RingAfter_D) (DOk.cons ok_impl_within (DOk.cons ok_impl_Mode_fall (DOk.cons ok_impl_isStrength (DOk.cons ok_impl_Mode_valid DOk.nil)))) ck_impl_RingAfter _ _ _ _
theorem ck_laws_FnTones : chkFn Tryd.prog phi 1227 laws_FnTones_ir = true := by kernel_rfl
theorem ok_laws_FnTones : FOk Tryd.prog phi 1227 laws_FnTones_c := fn_ok hm (D := laws_FnTones_D) (DOk.cons ok_laws_b10Abs (DOk.cons ok_laws_b10Long (DOk.cons ok_spec_NoteTone (DOk.cons ok_impl_RingAfter (DOk.cons ok_impl_CyclesTo (DOk.cons ok_spec_DrawCyclesTo (DOk.cons ok_impl_NoteTone (DOk.cons ok_impl_NoteOf (DOk.cons ok_impl_NoteName (DOk.cons ok_spec_DrawNoteOf DOk.nil)))))))))) ck_laws_FnTones _ _ _ _
theorem law : ∀ x, wfU laws_FnTones_c.ps x → ∃ y, laws_FnTones_c.f x = some y ∧ resA laws_FnTones_c y = ([A.bool true], []) := fun x hx => ⟨true, (laws_FnTones_true x.1 x.2.1 hx.1 hx.2.1), rfl⟩
theorem own : ownKnob Tryd.prog.godebug = none := by kernel_rfl
theorem laid : laidOutB Tryd.prog = true := by kernel_rfl
theorem reads : ∀ t ∈ Tryd.f3.params.toList, Tryd.prog.readableRec t = true ∧ t < Tryd.prog.types.size := by
  have h : (Tryd.f3.params.toList.all fun t => Tryd.prog.readableRec t && decide (t < Tryd.prog.types.size)) = true := by kernel_rfl
  intro t ht
  have := List.all_eq_true.1 h t ht
  simpa only [Bool.and_eq_true, decide_eq_true_eq] using this
theorem spec_eq (H : Type) : ∀ (ds : List (DataW H)), ds.length = Tryd.f3.params.toList.length → Rows.fnTonesSpec.fn H ds = { results := [.lit (.bool true)], args := ds } := by
  intro ds hd
  have hd : ds.length = 2 := hd
  match ds, hd with
  | [d0, d1], _ => rfl
theorem tab (W : World) (hL : laidMetH Tryd.prog Rows.fnTonesRow.laid W) : ∀ i, Tryd.prog.globalNamed pow10Name = some i → Lib.TabIs Tryd.prog W pow10Name .u64 Lib.pow10Tab := by
  intro i hi
  have hp : (Rows.fnTonesRow.laid.all fun x => x.2.handleName?.isNone) = true := by kernel_rfl
  rw [MakeChecks.laidMetH_plain _ _ _ hp] at hL
  have h1 : laidMet Tryd.prog (("internal/strconv.uint64pow10", Rows.laid_internal_strconv_uint64pow10) :: []) W := (laidMet.tail (laidMet.tail hL))
  have e : (Rows.laid_internal_strconv_uint64pow10 : DataW Unit) = Lib.tabData .u64 Lib.pow10Tab := by kernel_rfl
  rw [e] at h1
  exact Lib.tabIs_of_head (t := 69) (e := 49) (n := 20) hi (by obtain rfl := Option.some.inj ((show Tryd.prog.globalNamed pow10Name = some 0 by kernel_rfl).symm.trans hi); kernel_rfl) (by kernel_rfl) (by kernel_rfl) (by kernel_rfl) (by kernel_rfl) h1
theorem contract (H : Type) (enc : TypeId × Value → H) (W : World) (base : Nat) (args : Array Value) (ds gs : List (DataW H)) (before : List MemPlace)
    (hval : ∀ (j : Nat) t v, Tryd.f3.params[j]? = some t → args[j]? = some v → Value.okWide Tryd.prog W .any base t v)
    (hW : DataW.Whole enc Tryd.prog Tryd.f3.params.toList Rows.fnTonesSpec.vars false W args.toList ds gs before) (hL : laidMetH Tryd.prog Rows.fnTonesRow.laid W) (hsh : W.ShapedOpen Tryd.prog) :
    Calls Tryd.prog 3 args W fun e W' => ∃ v, e = .returned v ∧ Rows.fnTonesSpec.post enc Tryd.prog Tryd.f3 false true false false W args v W' :=
  row_contract (φ := phi) (g := 1227) (n := 20) ok_laws_FnTones rfl rfl (tb := 4) Tryd.underlying4 (by kernel_rfl) rfl law laid reads spec_eq W base args ds gs before hval hW (Glob.start hsh (tab W hL))
theorem lifted (os : Os) (started : os.Started) (H : Type) (enc : TypeId × Value → H) :
    ReturnsInHanded {} Tryd.checked os 3 .any (fun w args => (Rows.fnTonesSpec.pre enc Tryd.prog Tryd.f3 Rows.fnTonesRow.domain false w args ∧ laidMetH Tryd.prog Rows.fnTonesRow.laid w) ∧ sizedMet enc Tryd.prog Tryd.f3 (OpenSpec.ofChange Rows.fnTonesSpec) false w args) (Rows.fnTonesSpec.post enc Tryd.prog Tryd.f3 false true false false) := by
  refine returnsInHanded_laid (C := Tryd.checked) (laid := Rows.fnTonesRow.laid) own started (by kernel_rfl) Tryd.func3
    (ChangeSpec.witness_shaped (enc := enc) (C := Tryd.checked) (os := os) (X := fun w _ => laidMetH Tryd.prog Rows.fnTonesRow.laid w) false (World.laidAll Tryd.prog os Rows.fnTonesRow.laid) #[.slice none 0 0, .slice none 0 0] 12 (World.laidAll_os _ _ _)
      (World.shaped_of_ZipB (by kernel_rfl) (by kernel_rfl)) (by kernel_rfl) (by kernel_rfl) (by kernel_rfl)
      (by rw [MakeChecks.laidMetH_plain _ _ _ (by kernel_rfl)]; exact laidMet_laidAll _ (by kernel_rfl) (by kernel_rfl))) ?_
  intro W base args ds gs before hval hW hL hsh
  exact contract H enc W base args ds gs before hval hW hL hsh
theorem over : Rows.fnTonesRow.holds Tryd.pinned (OpenSpec.ofChange Rows.fnTonesSpec) :=
  OpenClaim.holds_of_wide 3 Tryd.f3 rfl rfl rfl rfl rfl rfl rfl ⟨rfl, rfl, rfl, rfl, rfl⟩ rfl rfl rfl rfl rfl (by kernel_rfl) Tryd.func3 (by kernel_rfl)
    (of_decide_eq_true (by kernel_rfl)) (by unfold Func.isWrapper; first | (rw [if_pos (by decide +kernel)]; kernel_rfl) | (rw [if_neg (by decide +kernel)]; exact ⟨rfl, rfl⟩))
    (fun os started H enc _ => lifted os started H enc)
theorem card : Rows.FnTonesCardSaid :=
  Claim7.holds_tied_plain_at .later [] [.data, .data, .data] true (true, "ab2d25a73a1f3c230ae543beb847b4d37ada041aecbf7660e0be769fed6d64eb") false over (fun _ h => by cases h) (by kernel_rfl) (fun _ h => by cases h) fnTones_row_tie rfl ⟨rfl, rfl⟩ (by kernel_rfl) rfl
    (fun f fn hf hfn => by
      obtain rfl : f = 3 := Option.some.inj ((show Tryd.prog.funcNamed "loop.example/g01061/laws.FnTones" = some 3 by kernel_rfl).symm.trans hf) |>.symm
      obtain rfl : fn = Tryd.f3 := (Option.some.inj (Tryd.func3.symm.trans hfn)).symm
      exact ⟨by kernel_rfl, fun j t ht => by
        have hm : t ∈ Tryd.f3.params.toList := by simpa using Array.mem_of_getElem? ht
        have hall : (Tryd.f3.params.toList.all fun u => !Tryd.prog.wantsStandIn u) = true := by kernel_rfl
        exact (show Tryd.prog.wantsStandIn t = false by simpa using List.all_eq_true.1 hall t hm)⟩)
    (by kernel_rfl)
/-- The statement. -/
theorem proved : Rows.FnTonesCardSaid := card
end Go.Proofs.YtnfdkcpnoolmfaaDoor.fnTones
