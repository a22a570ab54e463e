/- The law FnProvenance answers true for every input, whatever it is, and leaves its arguments as they were. Conditions: none. -/
import Derived.Test.YtmighhmhnlhfbaaGreatDoorQFnProvenance
import Derived.Test.YtmighhmhnlhfbaaGreatDoorRows
import Derived.Test.YtmighhmhnlhfbaaGreatDoorL5
import Derived.Test.YtmighhmhnlhfbaaGreatDoorL8
import Derived.Test.YtmighhmhnlhfbaaGreatDoorShelf
import Derived.Test.YtmighhmhnlhfbaaGreatDoorCards
import Derived.Test.YtmighhmhnlhfbaaGreatDoorTie
import Derived.LaidMore
import Derived.Lay
import Derived.SevenTiedAt
import Derived.Stop.Joined
import Derived.WalkKit
import Derived.ProofKit
import Derived.OpenShut
import Derived.JoinedOf
import Derived.Handed
set_option linter.unusedVariables false
set_option maxRecDepth 100000
namespace Go.Proofs.YtmighhmhnlhfbaaGreatDoor.fnProvenance
open Go.Ab Go.Ab.P
open Go.ChangeShapes Go.WideShapes Go.ChangeAt Go.RowKit
def phiL : List (Nat × Nat) := [(89,4),(441,21),(847,59),(463,40),(557,72),(1016,60),(860,41),(642,42),(519,22),(156,5),(22,51),(21,25),(24,30),(23,45),(531,38),(521,24),(154,7),(823,43),(861,44),(520,23),(155,6),(864,50),(524,29),(152,9),(683,46),(458,26),(522,27),(523,28),(153,8),(151,10),(526,31),(525,32),(150,11),(149,12),(4,52),(527,33),(148,13),(11,55),(12,56),(13,36),(1,70),(1021,69),(865,53),(528,34),(804,54),(529,35),(142,14),(530,37),(147,15),(146,16),(145,17),(144,18),(866,58),(1252,71),(1253,57),(532,39),(143,19),(141,20),(1254,3)]
def phi (n : Nat) : Nat := (phiL.lookup n).getD 1000000
theorem hm : Tryz.prog.follows .mixedOrders = true := by kernel_rfl
theorem ok_laws_r8Long : FOk Tryz.prog phi 89 laws_r8Long_c := fn_ok hm (D := laws_r8Long_D) DOk.nil (by kernel_rfl) _ _ _ _
theorem ok_spec_l00From : FOk Tryz.prog phi 441 spec_l00From_c := fn_ok hm (D := spec_l00From_D) DOk.nil (by kernel_rfl) _ _ _ _
theorem ok_spec_l00Src_next : FOk Tryz.prog phi 847 spec_l00Src_next_c := fn_ok hm (D := spec_l00Src_next_D) DOk.nil (by kernel_rfl) _ _ _ _
theorem ok_spec_l00Src_pick : FOk Tryz.prog phi 463 spec_l00Src_pick_c := fn_ok hm (D := spec_l00Src_pick_D) (DOk.cons ok_spec_l00Src_next DOk.nil) (by kernel_rfl) _ _ _ _
theorem ok_spec_l00Src_text : FOk Tryz.prog phi 557 spec_l00Src_text_c := fn_ok hm (D := spec_l00Src_text_D) (DOk.cons ok_spec_l00Src_pick DOk.nil) (by kernel_rfl) _ _ _ _
theorem ok_spec_l19DrawName : FOk Tryz.prog phi 1016 spec_l19DrawName_c := fn_ok hm (D := spec_l19DrawName_D) (DOk.cons ok_spec_l00Src_text DOk.nil) (by kernel_rfl) _ _ _ _
theorem ok_spec_l19DrawOne : FOk Tryz.prog phi 860 spec_l19DrawOne_c := fn_ok hm (D := spec_l19DrawOne_D) (DOk.cons ok_spec_l00Src_pick (DOk.cons ok_spec_l19DrawName DOk.nil)) (by kernel_rfl) _ _ _ _
theorem ok_spec_l00Src_one : FOk Tryz.prog phi 642 spec_l00Src_one_c := fn_ok hm (D := spec_l00Src_one_D) (DOk.cons ok_spec_l00Src_pick DOk.nil) (by kernel_rfl) _ _ _ _
theorem ok_spec_l19Draw : FOk Tryz.prog phi 519 spec_l19Draw_c := fn_ok hm (D := spec_l19Draw_D) (DOk.cons ok_spec_l00Src_pick (DOk.cons ok_spec_l00Src_one (DOk.cons ok_spec_l19DrawOne DOk.nil))) (by kernel_rfl) _ _ _ _
theorem ok_spec_R8Deeds : FOk Tryz.prog phi 156 spec_R8Deeds_c := fn_ok hm (D := spec_R8Deeds_D) (DOk.cons ok_spec_l00From (DOk.cons ok_spec_l19Draw DOk.nil)) (by kernel_rfl) _ _ _ _
theorem ok_impl_isDigit : FOk Tryz.prog phi 22 impl_isDigit_c := fn_ok hm (D := impl_isDigit_D) DOk.nil (by kernel_rfl) _ _ _ _
theorem ok_impl_few : FOk Tryz.prog phi 21 impl_few_c := fn_ok hm (D := impl_few_D) DOk.nil (by kernel_rfl) _ _ _ _
theorem ok_impl_IsName : FOk Tryz.prog phi 24 impl_IsName_c := fn_ok hm (D := impl_IsName_D) (DOk.cons ok_impl_few (DOk.cons ok_impl_isDigit DOk.nil)) (by kernel_rfl) _ _ _ _
theorem ok_impl_within : FOk Tryz.prog phi 23 impl_within_c := fn_ok hm (D := impl_within_D) DOk.nil (by kernel_rfl) _ _ _ _
theorem ok_impl_isYear : FOk Tryz.prog phi 531 impl_isYear_c := fn_ok hm (D := impl_isYear_D) (DOk.cons ok_impl_within DOk.nil) (by kernel_rfl) _ _ _ _
theorem ok_impl_Deed_valid : FOk Tryz.prog phi 521 impl_Deed_valid_c := fn_ok hm (D := impl_Deed_valid_D) (DOk.cons ok_impl_within (DOk.cons ok_impl_IsName (DOk.cons ok_impl_isYear DOk.nil))) (by kernel_rfl) _ _ _ _
theorem ok_impl_ValidDeeds : FOk Tryz.prog phi 154 impl_ValidDeeds_c := fn_ok hm (D := impl_ValidDeeds_D) (DOk.cons ok_impl_few (DOk.cons ok_impl_Deed_valid DOk.nil)) (by kernel_rfl) _ _ _ _
theorem ok_slices_Sort___string_string_ : FOk Tryz.prog phi 823 slices_Sort___string_string__c := sortS_ok Tryz.lays190 (by kernel_rfl)
theorem ok_slices_Compact___string_string_ : FOk Tryz.prog phi 861 slices_Compact___string_string__c := compactS_ok Tryz.lays194 (by kernel_rfl)
theorem ok_impl_sortedSet : FOk Tryz.prog phi 520 impl_sortedSet_c := fn_ok hm (D := impl_sortedSet_D) (DOk.cons ok_slices_Sort___string_string_ (DOk.cons ok_slices_Compact___string_string_ DOk.nil)) (by kernel_rfl) _ _ _ _
theorem ok_impl_OwnersOf : FOk Tryz.prog phi 155 impl_OwnersOf_c := fn_ok hm (D := impl_OwnersOf_D) (DOk.cons ok_impl_ValidDeeds (DOk.cons ok_impl_sortedSet DOk.nil)) (by kernel_rfl) _ _ _ _
theorem ok_strconv_FormatInt : FOk Tryz.prog phi 864 strconv_FormatInt_c := formatInt_ok Tryz.laysM173 ⟨3,by kernel_rfl⟩ (by kernel_rfl)
theorem ok_impl_Decimal : FOk Tryz.prog phi 524 impl_Decimal_c := fn_ok hm (D := impl_Decimal_D) (DOk.cons ok_strconv_FormatInt DOk.nil) (by kernel_rfl) _ _ _ _
theorem ok_impl_DeedText : FOk Tryz.prog phi 152 impl_DeedText_c := fn_ok hm (D := impl_DeedText_D) (DOk.cons ok_impl_Deed_valid (DOk.cons ok_impl_Decimal DOk.nil)) (by kernel_rfl) _ _ _ _
theorem ok_strings_Split : FOk Tryz.prog phi 683 strings_Split_c := split_ok Tryz.laysM146 (of_decide_eq_true (by kernel_rfl)) (by kernel_rfl)
theorem ok_impl_SplitWords : FOk Tryz.prog phi 458 impl_SplitWords_c := fn_ok hm (D := impl_SplitWords_D) (DOk.cons ok_strings_Split DOk.nil) (by kernel_rfl) _ _ _ _
section
open Go.Lib
theorem rd_long (s : ByteArray) (w : World) (hl : 18 < (Lib.trimPrefix s.data.toList [45]).length) :
 Calls Tryz.prog 27 #[.string s] w fun e w' => e = .returned (.tuple #[.int .i64 0,.bool false]) ∧ Below w.heap.size w w' := by
 go_enter Tryz.func27,Tryz.ntmps27
 go_wp2_with (go_at_call 47; refine (Tryz.strings_TrimPrefix _ _ _).mono ?_; rintro e w' ⟨rfl,rfl⟩)
 all_goals first
  | (exfalso; omega)
  | (go_ret2; exact ⟨rfl,Below.refl _ _⟩)
theorem rd_bad (s : ByteArray) (w : World) (hl : ¬ 18 < (Lib.trimPrefix s.data.toList [45]).length) (m : Int) (u : TypeId) (hP : Calls Tryz.prog 48 #[.string s,.int .i64 10,.int .i64 64] w fun e w' => ∃ x,e = .returned (.tuple #[.int .i64 m,.iface u x]) ∧ Below w.heap.size w w') :
 Calls Tryz.prog 27 #[.string s] w fun e w' => e = .returned (.tuple #[.int .i64 0,.bool false]) ∧ Below w.heap.size w w' := by
 go_enter Tryz.func27,Tryz.ntmps27
 go_wp2_with (first | (go_at_call 47; refine (Tryz.strings_TrimPrefix _ _ _).mono ?_; rintro e w' ⟨rfl,rfl⟩) | (go_at_call 48; refine hP.mono ?_; rintro e w1 ⟨x,rfl,hw1⟩))
 all_goals first
  | (exfalso; omega)
  | (go_ret2; exact ⟨rfl,hw1⟩)
theorem rd_ok (s : ByteArray) (w : World) (hl : ¬ 18 < (Lib.trimPrefix s.data.toList [45]).length) (v : Int) (hs : Lib.itoa v = s.data.toList) (hP : Calls Tryz.prog 48 #[.string s,.int .i64 10,.int .i64 64] w fun e w' => e = .returned (.tuple #[.int .i64 v,.nilIface]) ∧ Below w.heap.size w w')
 (hF : ∀ w',Below w.heap.size w w' → Calls Tryz.prog 50 #[.int .i64 v,.int .i64 10] w' fun e w'' => e = .returned (.string ⟨(Lib.itoa v).toArray⟩) ∧ Below w'.heap.size w' w'') :
 Calls Tryz.prog 27 #[.string s] w fun e w' => e = .returned (.tuple #[.int .i64 v,.bool true]) ∧ Below w.heap.size w w' := by
 have HS := Lib.hid hs; clear hs
 go_enter Tryz.func27,Tryz.ntmps27
 go_wp2_with (first | (go_at_call 47; refine (Tryz.strings_TrimPrefix _ _ _).mono ?_; rintro e w' ⟨rfl,rfl⟩) | (go_at_call 48; refine hP.mono ?_; rintro e w1 ⟨rfl,hw1⟩) | (go_at_call 50; refine (hF _ hw1).mono ?_; rintro e w2 ⟨rfl,hw2⟩) | go_in)
 all_goals first
  | (exfalso; omega)
  | skip
 ·rename_i h
  exfalso
  rw [HS.out] at h
  simp [Lib.toList_data] at h
 ·go_ret2; exact ⟨rfl,hw1.trans (hw2.mono hw1.size)⟩
theorem rd_no (s : ByteArray) (w : World) (hl : ¬ 18 < (Lib.trimPrefix s.data.toList [45]).length) (v : Int) (hs : Lib.itoa v ≠ s.data.toList) (hP : Calls Tryz.prog 48 #[.string s,.int .i64 10,.int .i64 64] w fun e w' => e = .returned (.tuple #[.int .i64 v,.nilIface]) ∧ Below w.heap.size w w')
 (hF : ∀ w',Below w.heap.size w w' → Calls Tryz.prog 50 #[.int .i64 v,.int .i64 10] w' fun e w'' => e = .returned (.string ⟨(Lib.itoa v).toArray⟩) ∧ Below w'.heap.size w' w'') :
 Calls Tryz.prog 27 #[.string s] w fun e w' => e = .returned (.tuple #[.int .i64 0,.bool false]) ∧ Below w.heap.size w w' := by
 have HS := Lib.hid hs; clear hs
 go_enter Tryz.func27,Tryz.ntmps27
 go_wp2_with (first | (go_at_call 47; refine (Tryz.strings_TrimPrefix _ _ _).mono ?_; rintro e w' ⟨rfl,rfl⟩) | (go_at_call 48; refine hP.mono ?_; rintro e w1 ⟨rfl,hw1⟩) | (go_at_call 50; refine (hF _ hw1).mono ?_; rintro e w2 ⟨rfl,hw2⟩) | go_in)
 all_goals first
  | (exfalso; omega)
  | skip
 ·go_ret2; exact ⟨rfl,hw1.trans (hw2.mono hw1.size)⟩
 ·rename_i h
  exfalso
  apply HS.out
  simpa [Lib.toList_data] using h
end
theorem rd_walk : RdWalk Tryz.prog 27 48 50 := ⟨⟨_,Tryz.func27,by decide +kernel,rfl⟩,rd_long,rd_bad,rd_ok,rd_no⟩
theorem ok_impl_ReadDecimal : FOk Tryz.prog phi 522 impl_ReadDecimal_c := readDecimal_ok Tryz.laysC174 Tryz.laysM173 ⟨3,by kernel_rfl⟩ (by kernel_rfl) (by kernel_rfl) rd_walk (by kernel_rfl)
theorem ok_strings_Cut : FOk Tryz.prog phi 523 strings_Cut_c := cut_ok Tryz.laysM145 (of_decide_eq_true (by kernel_rfl)) (by kernel_rfl)
theorem ok_impl_ReadDeed : FOk Tryz.prog phi 153 impl_ReadDeed_c := fn_ok hm (D := impl_ReadDeed_D) (DOk.cons ok_impl_DeedText (DOk.cons ok_impl_SplitWords (DOk.cons ok_impl_ReadDecimal (DOk.cons ok_strings_Cut DOk.nil)))) (by kernel_rfl) _ _ _ _
theorem ok_laws_r8At : FOk Tryz.prog phi 151 laws_r8At_c := fn_ok hm (D := laws_r8At_D) DOk.nil (by kernel_rfl) _ _ _ _
theorem ok_impl_links : FOk Tryz.prog phi 526 impl_links_c := fn_ok hm (D := impl_links_D) DOk.nil (by kernel_rfl) _ _ _ _
theorem ok_slices_Reverse___int64_int64_ : FOk Tryz.prog phi 525 slices_Reverse___int64_int64__c := fn_ok hm (D := slices_Reverse___int64_int64__D) DOk.nil (by kernel_rfl) _ _ _ _
theorem ok_impl_BestChain : FOk Tryz.prog phi 150 impl_BestChain_c := fn_ok hm (D := impl_BestChain_D) (DOk.cons ok_impl_IsName (DOk.cons ok_impl_ValidDeeds (DOk.cons ok_slices_Reverse___int64_int64_ (DOk.cons ok_impl_links DOk.nil)))) (by kernel_rfl) _ _ _ _
theorem ok_impl_ReachedOwners : FOk Tryz.prog phi 149 impl_ReachedOwners_c := fn_ok hm (D := impl_ReachedOwners_D) (DOk.cons ok_impl_IsName (DOk.cons ok_impl_ValidDeeds (DOk.cons ok_impl_sortedSet (DOk.cons ok_impl_links DOk.nil)))) (by kernel_rfl) _ _ _ _
theorem ok_impl_at : FOk Tryz.prog phi 4 impl_at_c := fn_ok hm (D := impl_at_D) DOk.nil (by kernel_rfl) _ _ _ _
theorem ok_impl_isChain : FOk Tryz.prog phi 527 impl_isChain_c := fn_ok hm (D := impl_isChain_D) (DOk.cons ok_impl_at DOk.nil) (by kernel_rfl) _ _ _ _
theorem ok_impl_IsChain : FOk Tryz.prog phi 148 impl_IsChain_c := fn_ok hm (D := impl_IsChain_D) (DOk.cons ok_impl_ValidDeeds (DOk.cons ok_impl_isChain DOk.nil)) (by kernel_rfl) _ _ _ _
theorem ok_spec_l01Small : FOk Tryz.prog phi 11 spec_l01Small_c := fn_ok hm (D := spec_l01Small_D) DOk.nil (by kernel_rfl) _ _ _ _
theorem ok_spec_l01Digit : FOk Tryz.prog phi 12 spec_l01Digit_c := fn_ok hm (D := spec_l01Digit_D) DOk.nil (by kernel_rfl) _ _ _ _
theorem ok_spec_l01Name : FOk Tryz.prog phi 13 spec_l01Name_c := fn_ok hm (D := spec_l01Name_D) (DOk.cons ok_spec_l01Small (DOk.cons ok_spec_l01Digit DOk.nil)) (by kernel_rfl) _ _ _ _
theorem ok_spec_l00In : FOk Tryz.prog phi 1 spec_l00In_c := fn_ok hm (D := spec_l00In_D) DOk.nil (by kernel_rfl) _ _ _ _
theorem ok_spec_l19Year : FOk Tryz.prog phi 1021 spec_l19Year_c := fn_ok hm (D := spec_l19Year_D) (DOk.cons ok_spec_l00In DOk.nil) (by kernel_rfl) _ _ _ _
theorem ok_spec_l19One : FOk Tryz.prog phi 865 spec_l19One_c := fn_ok hm (D := spec_l19One_D) (DOk.cons ok_spec_l00In (DOk.cons ok_spec_l01Name (DOk.cons ok_spec_l19Year DOk.nil))) (by kernel_rfl) _ _ _ _
theorem ok_spec_l19Ok : FOk Tryz.prog phi 528 spec_l19Ok_c := fn_ok hm (D := spec_l19Ok_D) (DOk.cons ok_spec_l19One DOk.nil) (by kernel_rfl) _ _ _ _
theorem ok_spec_l00Rises : FOk Tryz.prog phi 804 spec_l00Rises_c := fn_ok hm (D := spec_l00Rises_D) (DOk.cons ok_spec_l00In DOk.nil) (by kernel_rfl) _ _ _ _
theorem ok_spec_l19Chain : FOk Tryz.prog phi 529 spec_l19Chain_c := fn_ok hm (D := spec_l19Chain_D) (DOk.cons ok_spec_l00Rises DOk.nil) (by kernel_rfl) _ _ _ _
theorem ok_spec_IsChain : FOk Tryz.prog phi 142 spec_IsChain_c := fn_ok hm (D := spec_IsChain_D) (DOk.cons ok_spec_l19Ok (DOk.cons ok_spec_l19Chain DOk.nil)) (by kernel_rfl) _ _ _ _
theorem ok_spec_l19Best : FOk Tryz.prog phi 530 spec_l19Best_c := fn_ok hm (D := spec_l19Best_D) DOk.nil (by kernel_rfl) _ _ _ _
theorem ok_spec_BestChain : FOk Tryz.prog phi 147 spec_BestChain_c := fn_ok hm (D := spec_BestChain_D) (DOk.cons ok_spec_l01Name (DOk.cons ok_spec_l19Ok (DOk.cons ok_spec_l19Best DOk.nil))) (by kernel_rfl) _ _ _ _
theorem ok_laws_r8Wide : FOk Tryz.prog phi 146 laws_r8Wide_c := fn_ok hm (D := laws_r8Wide_D) (DOk.cons ok_laws_r8At DOk.nil) (by kernel_rfl) _ _ _ _
theorem ok_impl_OwnerIn : FOk Tryz.prog phi 145 impl_OwnerIn_c := fn_ok hm (D := impl_OwnerIn_D) (DOk.cons ok_impl_ValidDeeds (DOk.cons ok_impl_isChain (DOk.cons ok_impl_isYear DOk.nil))) (by kernel_rfl) _ _ _ _
theorem ok_impl_LongestHold : FOk Tryz.prog phi 144 impl_LongestHold_c := fn_ok hm (D := impl_LongestHold_D) (DOk.cons ok_impl_ValidDeeds (DOk.cons ok_impl_isChain DOk.nil)) (by kernel_rfl) _ _ _ _
theorem ok_impl_comesBack_1 : FOk Tryz.prog phi 866 impl_comesBack_1_c := fn_ok hm (D := impl_comesBack_1_D) DOk.nil (by kernel_rfl) _ _ _ _
theorem ok_slices_IndexFunc___impl_Deed_impl_Deed__impl_comesBack_1 : FOk Tryz.prog phi 1252 slices_IndexFunc___impl_Deed_impl_Deed__impl_comesBack_1_c := fn_ok hm (D := slices_IndexFunc___impl_Deed_impl_Deed__impl_comesBack_1_D) (DOk.cons ok_impl_comesBack_1 DOk.nil) (by kernel_rfl) _ _ _ _
theorem ok_slices_ContainsFunc___impl_Deed_impl_Deed__impl_comesBack_1 : FOk Tryz.prog phi 1253 slices_ContainsFunc___impl_Deed_impl_Deed__impl_comesBack_1_c := fn_ok hm (D := slices_ContainsFunc___impl_Deed_impl_Deed__impl_comesBack_1_D) (DOk.cons ok_impl_comesBack_1 (DOk.cons ok_slices_IndexFunc___impl_Deed_impl_Deed__impl_comesBack_1 DOk.nil)) (by kernel_rfl) _ _ _ _
theorem ok_impl_comesBack : FOk Tryz.prog phi 532 impl_comesBack_c := fn_ok hm (D := impl_comesBack_D) (DOk.cons ok_slices_ContainsFunc___impl_Deed_impl_Deed__impl_comesBack_1 DOk.nil) (by kernel_rfl) _ _ _ _
theorem ok_impl_RivalDeeds : FOk Tryz.prog phi 143 impl_RivalDeeds_c := fn_ok hm (D := impl_RivalDeeds_D) (DOk.cons ok_impl_few (DOk.cons ok_impl_ValidDeeds (DOk.cons ok_impl_comesBack DOk.nil))) (by kernel_rfl) _ _ _ _
theorem ok_impl_FirstOwners : FOk Tryz.prog phi 141 impl_FirstOwners_c := fn_ok hm (D := impl_FirstOwners_D) (DOk.cons ok_impl_ValidDeeds (DOk.cons ok_impl_sortedSet (DOk.cons ok_impl_comesBack DOk.nil))) (by kernel_rfl) _ _ _ _
theorem ok_laws_FnProvenance : FOk Tryz.prog phi 1254 laws_FnProvenance_c := fn_ok hm (D := laws_FnProvenance_D) (DOk.cons ok_laws_r8Long (DOk.cons ok_impl_FirstOwners (DOk.cons ok_spec_IsChain (DOk.cons ok_impl_RivalDeeds (DOk.cons ok_impl_LongestHold (DOk.cons ok_impl_OwnerIn (DOk.cons ok_laws_r8Wide (DOk.cons ok_spec_BestChain (DOk.cons ok_impl_IsChain (DOk.cons ok_impl_ReachedOwners (DOk.cons ok_impl_BestChain (DOk.cons ok_laws_r8At (DOk.cons ok_impl_DeedText (DOk.cons ok_impl_ReadDeed (DOk.cons ok_impl_ValidDeeds (DOk.cons ok_impl_OwnersOf (DOk.cons ok_spec_R8Deeds DOk.nil))))))))))))))))) (by kernel_rfl) _ _ _ _
theorem law : ∀ x,wfU laws_FnProvenance_c.ps x → ∃ y,laws_FnProvenance_c.f x = some y ∧ resA laws_FnProvenance_c y = ([A.bool true],[]) := fun x hx => ⟨true,(laws_FnProvenance_true x.1 x.2.1 hx.1 hx.2.1),rfl⟩
theorem own : ownKnob Tryz.prog.godebug = none := by kernel_rfl
theorem laid : laidOutB Tryz.prog = true := by kernel_rfl
theorem reads : ∀ t ∈ Tryz.f3.params.toList,Tryz.prog.readableRec t = true ∧ t < Tryz.prog.types.size := by
 have h : (Tryz.f3.params.toList.all fun t => Tryz.prog.readableRec t && decide (t < Tryz.prog.types.size)) = true := by kernel_rfl
 intro t ht
 have := List.all_eq_true.1 h t ht
 simpa only [Bool.and_eq_true,decide_eq_true_eq] using this
theorem spec_eq (H : Type) : ∀ (ds : List (DataW H)),ds.length = Tryz.f3.params.toList.length → Rows.fnProvenanceSpec.fn H ds = { results := [.lit (.bool true)],args := ds } := by
 intro ds hd
 have hd : ds.length = 2 := hd
 match ds,hd with
 | [d0,d1],_ => rfl
theorem tab (W : World) (hL : laidMetH Tryz.prog Rows.fnProvenanceRow.laid W) : ∀ i,Tryz.prog.globalNamed pow10Name = some i → Lib.TabIs Tryz.prog W pow10Name .u64 Lib.pow10Tab := by
 intro i hi
 have hp : (Rows.fnProvenanceRow.laid.all fun x => x.2.handleName?.isNone) = true := by kernel_rfl
 rw [MakeChecks.laidMetH_plain _ _ _ hp] at hL
 have h1 : laidMet Tryz.prog (("internal/strconv.uint64pow10",Rows.laid_internal_strconv_uint64pow10) :: [("unicode/utf8.acceptRanges",Rows.laid_unicode_utf8_acceptRanges),("strconv.ErrRange",Rows.laid_strconv_ErrRange),("strconv.ErrSyntax",Rows.laid_strconv_ErrSyntax),("unicode/utf8.first",Rows.laid_unicode_utf8_first)]) W := (laidMet.tail (laidMet.tail hL))
 have e : (Rows.laid_internal_strconv_uint64pow10 : DataW Unit) = Lib.tabData .u64 Lib.pow10Tab := by kernel_rfl
 rw [e] at h1
 exact Lib.tabIs_of_head (t := 144) (e := 70) (n := 20) hi (by obtain rfl := Option.some.inj ((show Tryz.prog.globalNamed pow10Name = some 3 by kernel_rfl).symm.trans hi); kernel_rfl) (by kernel_rfl) (by kernel_rfl) (by kernel_rfl) (by kernel_rfl) h1
theorem errs (W : World) (hL : laidMetH Tryz.prog Rows.fnProvenanceRow.laid W) : ∀ n,errNames.contains n = true → ∀ i,Tryz.prog.globalNamed n = some i → ∃ u v,W.var? Tryz.prog n = some #[.iface u v] := by
 intro n hn i hi
 have hn : n = "strconv.ErrSyntax" ∨ n = "strconv.ErrRange" := by simpa [errNames] using hn
 have hp : (Rows.fnProvenanceRow.laid.all fun x => x.2.handleName?.isNone) = true := by kernel_rfl
 rw [MakeChecks.laidMetH_plain _ _ _ hp] at hL
 rcases hn with rfl | rfl
 ·have h1 : laidMet Tryz.prog (("strconv.ErrSyntax",Rows.laid_strconv_ErrSyntax) :: [("unicode/utf8.first",Rows.laid_unicode_utf8_first)]) W := (laidMet.tail (laidMet.tail (laidMet.tail (laidMet.tail (laidMet.tail hL)))))
  exact laid_iface (ti := 80) h1 ⟨_,_,rfl⟩ hi (by obtain rfl := Option.some.inj ((show Tryz.prog.globalNamed "strconv.ErrSyntax" = some 1 by kernel_rfl).symm.trans hi); kernel_rfl) Tryz.underlying80
 ·have h1 : laidMet Tryz.prog (("strconv.ErrRange",Rows.laid_strconv_ErrRange) :: [("strconv.ErrSyntax",Rows.laid_strconv_ErrSyntax),("unicode/utf8.first",Rows.laid_unicode_utf8_first)]) W := (laidMet.tail (laidMet.tail (laidMet.tail (laidMet.tail hL))))
  exact laid_iface (ti := 80) h1 ⟨_,_,rfl⟩ hi (by obtain rfl := Option.some.inj ((show Tryz.prog.globalNamed "strconv.ErrRange" = some 2 by kernel_rfl).symm.trans hi); kernel_rfl) Tryz.underlying80
theorem contract (H : Type) (enc : TypeId × Value → H) (W : World) (base : Nat) (args : Array Value) (ds gs : List (DataW H)) (before : List MemPlace)
 (hval : ∀ (j : Nat) t v,Tryz.f3.params[j]? = some t → args[j]? = some v → Value.okWide Tryz.prog W .any base t v)
 (hW : DataW.Whole enc Tryz.prog Tryz.f3.params.toList Rows.fnProvenanceSpec.vars false W args.toList ds gs before) (hL : laidMetH Tryz.prog Rows.fnProvenanceRow.laid W) (hsh : W.ShapedOpen Tryz.prog) :
 Calls Tryz.prog 3 args W fun e W' => ∃ v,e = .returned v ∧ Rows.fnProvenanceSpec.post enc Tryz.prog Tryz.f3 false true false false W args v W' :=
 row_contract (φ := phi) (g := 1254) (n := 20) ok_laws_FnProvenance rfl rfl (tb := 4) Tryz.underlying4 (by kernel_rfl) rfl law laid reads spec_eq W base args ds gs before hval hW (Glob.start hsh (tab W hL) (errs W hL))
theorem lifted (os : Os) (started : os.Started) (H : Type) (enc : TypeId × Value → H) :
 ReturnsInHanded {} Tryz.checked os 3 .any (fun w args => (Rows.fnProvenanceSpec.pre enc Tryz.prog Tryz.f3 Rows.fnProvenanceRow.domain false w args ∧ laidMetH Tryz.prog Rows.fnProvenanceRow.laid w) ∧ sizedMet enc Tryz.prog Tryz.f3 (OpenSpec.ofChange Rows.fnProvenanceSpec) false w args) (Rows.fnProvenanceSpec.post enc Tryz.prog Tryz.f3 false true false false) := by
 refine returnsInHanded_laid (C := Tryz.checked) (laid := Rows.fnProvenanceRow.laid) own started (by kernel_rfl) Tryz.func3
  (ChangeSpec.witness_shaped (enc := enc) (C := Tryz.checked) (os := os) (X := fun w _ => laidMetH Tryz.prog Rows.fnProvenanceRow.laid w) false (World.laidAll Tryz.prog os Rows.fnProvenanceRow.laid) #[.slice none 0 0,.slice none 0 0] 12 (World.laidAll_os _ _ _)
    (World.shaped_of_ZipB (by kernel_rfl) (by kernel_rfl)) (by kernel_rfl) (by kernel_rfl) (by kernel_rfl)
    (by rw [MakeChecks.laidMetH_plain _ _ _ (by kernel_rfl)]; exact laidMet_laidAll _ (by kernel_rfl) (by kernel_rfl))) ?_
 intro W base args ds gs before hval hW hL hsh
 exact contract H enc W base args ds gs before hval hW hL hsh
theorem over : Rows.fnProvenanceRow.holds Tryz.pinned (OpenSpec.ofChange Rows.fnProvenanceSpec) :=
 OpenClaim.holds_of_wide 3 Tryz.f3 rfl rfl rfl rfl rfl rfl rfl ⟨rfl,rfl,rfl,rfl,rfl⟩ rfl rfl rfl rfl rfl (by kernel_rfl) Tryz.func3 (by kernel_rfl)
  (of_decide_eq_true (by kernel_rfl)) (by unfold Func.isWrapper; first | (rw [if_pos (by decide +kernel)]; kernel_rfl) | (rw [if_neg (by decide +kernel)]; exact ⟨rfl,rfl⟩))
  (fun os started H enc _ => lifted os started H enc)
theorem card : Rows.FnProvenanceCardSaid :=
 Claim7.holds_tied_plain_at .later [] [.data,.data,.data,.data,.sentinel,.sentinel,.pinned] true (true,"318ad81c7764220d06edd62305d9dc69711288b765ec8bd9664b94ec00d17d8e") true over (fun _ h => by cases h) (by kernel_rfl) (fun _ h => by cases h) fnProvenance_row_tie rfl ⟨rfl,rfl⟩ (by kernel_rfl) rfl
  (fun f fn hf hfn => by
    obtain rfl : f = 3 := Option.some.inj ((show Tryz.prog.funcNamed "loop.example/g01061/laws.FnProvenance" = some 3 by kernel_rfl).symm.trans hf) |>.symm
    obtain rfl : fn = Tryz.f3 := (Option.some.inj (Tryz.func3.symm.trans hfn)).symm
    exact ⟨by kernel_rfl,fun j t ht => by
     have hm : t ∈ Tryz.f3.params.toList := by simpa using Array.mem_of_getElem? ht
     have hall : (Tryz.f3.params.toList.all fun u => !Tryz.prog.wantsStandIn u) = true := by kernel_rfl
     exact (show Tryz.prog.wantsStandIn t = false by simpa using List.all_eq_true.1 hall t hm)⟩)
  (by kernel_rfl)
theorem proved : Rows.FnProvenanceCardSaid := card
end Go.Proofs.YtmighhmhnlhfbaaGreatDoor.fnProvenance
