/- The law FnFrames answers true for every input, whatever it is, and leaves its arguments as they were. Conditions: none. -/
import Derived.Test.YtangabikonhepaaGreatDoorQFnFrames
import Derived.Test.YtangabikonhepaaGreatDoorRows
import Derived.Test.YtangabikonhepaaGreatDoorL5
import Derived.Test.YtangabikonhepaaGreatDoorLD
import Derived.Carry
import Derived.Deep.RegionHeld3
import Derived.Deep.RegionLaw
import Derived.Shelf.RegionOpenPlain
import Derived.Shelf.Spec.SlicesInsert
import Derived.Test.YtangabikonhepaaGreatDoorShelf
import Derived.Test.YtangabikonhepaaGreatDoorCards
import Derived.Test.YtangabikonhepaaGreatDoorTie
import Derived.LaidMore
import Derived.Lay
import Derived.SevenTiedAt
import Derived.Stop.Joined
import Derived.WalkKit
import Derived.ProofKit
import Derived.OpenShut
import Derived.JoinedOf
import Derived.Handed
set_option linter.unusedVariables false
set_option maxRecDepth 100000
namespace Go.Proofs.YtangabikonhepaaGreatDoor.fnFrames
open Go.Ab Go.Ab.P
open Go.ChangeShapes Go.WideShapes Go.ChangeAt Go.RowKit
def phiL : List (Nat × Nat) := [(89,4),(441,18),(847,71),(463,40),(557,73),(642,74),(1026,75),(992,61),(726,59),(963,70),(833,39),(875,42),(11,98),(12,99),(13,66),(879,57),(880,58),(575,31),(1025,72),(876,41),(567,19),(193,5),(22,100),(21,37),(24,76),(565,77),(570,43),(950,53),(828,28),(569,20),(864,44),(524,21),(826,23),(23,51),(990,46),(518,79),(668,45),(827,22),(431,6),(678,24),(683,25),(991,49),(522,50),(829,26),(523,52),(749,27),(430,7),(334,8),(572,54),(1273,89),(571,55),(877,56),(568,29),(333,9),(574,30),(187,10),(1050,93),(1051,92),(961,60),(748,32),(335,11),(151,13),(146,12),(830,33),(429,14),(623,94),(1032,95),(1033,96),(900,62),(611,34),(630,121),(460,97),(459,63),(831,35),(428,15),(458,64),(457,65),(832,36),(427,16),(1,68),(993,67),(994,69),(834,38),(426,17),(1276,3)]
def phi (n : Nat) : Nat := (phiL.lookup n).getD 1000000
theorem hm : Tryz.prog.follows .mixedOrders = true := by kernel_rfl
theorem ok_laws_r8Long : FOk Tryz.prog phi 89 laws_r8Long_c := fn_ok hm (D := laws_r8Long_D) DOk.nil (by kernel_rfl) _ _ _ _
theorem ok_spec_l00From : FOk Tryz.prog phi 441 spec_l00From_c := fn_ok hm (D := spec_l00From_D) DOk.nil (by kernel_rfl) _ _ _ _
theorem ok_spec_l00Src_next : FOk Tryz.prog phi 847 spec_l00Src_next_c := fn_ok hm (D := spec_l00Src_next_D) DOk.nil (by kernel_rfl) _ _ _ _
theorem ok_spec_l00Src_pick : FOk Tryz.prog phi 463 spec_l00Src_pick_c := fn_ok hm (D := spec_l00Src_pick_D) (DOk.cons ok_spec_l00Src_next DOk.nil) (by kernel_rfl) _ _ _ _
theorem ok_spec_l00Src_text : FOk Tryz.prog phi 557 spec_l00Src_text_c := fn_ok hm (D := spec_l00Src_text_D) (DOk.cons ok_spec_l00Src_pick DOk.nil) (by kernel_rfl) _ _ _ _
theorem ok_spec_l00Src_one : FOk Tryz.prog phi 642 spec_l00Src_one_c := fn_ok hm (D := spec_l00Src_one_D) (DOk.cons ok_spec_l00Src_pick DOk.nil) (by kernel_rfl) _ _ _ _
theorem ok_spec_l00Src_word : FOk Tryz.prog phi 1026 spec_l00Src_word_c := fn_ok hm (D := spec_l00Src_word_D) (DOk.cons ok_spec_l00Src_pick (DOk.cons ok_spec_l00Src_next DOk.nil)) (by kernel_rfl) _ _ _ _
theorem ok_spec_l21DrawOne : FOk Tryz.prog phi 992 spec_l21DrawOne_c := fn_ok hm (D := spec_l21DrawOne_D) (DOk.cons ok_spec_l00Src_pick (DOk.cons ok_spec_l00Src_text DOk.nil)) (by kernel_rfl) _ _ _ _
theorem ok_spec_l01Dec : FOk Tryz.prog phi 726 spec_l01Dec_c := fn_ok hm (D := spec_l01Dec_D) DOk.nil (by kernel_rfl) _ _ _ _
theorem ok_spec_l01List : FOk Tryz.prog phi 963 spec_l01List_c := fn_ok hm (D := spec_l01List_D) (DOk.cons ok_spec_l01Dec DOk.nil) (by kernel_rfl) _ _ _ _
theorem ok_spec_l21Text : FOk Tryz.prog phi 833 spec_l21Text_c := fn_ok hm (D := spec_l21Text_D) (DOk.cons ok_spec_l01List DOk.nil) (by kernel_rfl) _ _ _ _
theorem ok_spec_l29DrawOne : FOk Tryz.prog phi 875 spec_l29DrawOne_c := fn_ok hm (D := spec_l29DrawOne_D) (DOk.cons ok_spec_l00Src_pick (DOk.cons ok_spec_l00Src_text (DOk.cons ok_spec_l00Src_one (DOk.cons ok_spec_l21Text (DOk.cons ok_spec_l21DrawOne (DOk.cons ok_spec_l00Src_word DOk.nil)))))) (by kernel_rfl) _ _ _ _
theorem ok_spec_l01Small : FOk Tryz.prog phi 11 spec_l01Small_c := fn_ok hm (D := spec_l01Small_D) DOk.nil (by kernel_rfl) _ _ _ _
theorem ok_spec_l01Digit : FOk Tryz.prog phi 12 spec_l01Digit_c := fn_ok hm (D := spec_l01Digit_D) DOk.nil (by kernel_rfl) _ _ _ _
theorem ok_spec_l01Name : FOk Tryz.prog phi 13 spec_l01Name_c := fn_ok hm (D := spec_l01Name_D) (DOk.cons ok_spec_l01Small (DOk.cons ok_spec_l01Digit DOk.nil)) (by kernel_rfl) _ _ _ _
theorem ok_spec_l29One : FOk Tryz.prog phi 879 spec_l29One_c := fn_ok hm (D := spec_l29One_D) (DOk.cons ok_spec_l01Name DOk.nil) (by kernel_rfl) _ _ _ _
theorem ok_spec_l29Before : FOk Tryz.prog phi 880 spec_l29Before_c := fn_ok hm (D := spec_l29Before_D) DOk.nil (by kernel_rfl) _ _ _ _
theorem ok_spec_l29Ok : FOk Tryz.prog phi 575 spec_l29Ok_c := fn_ok hm (D := spec_l29Ok_D) (DOk.cons ok_spec_l29One (DOk.cons ok_spec_l29Before DOk.nil)) (by kernel_rfl) _ _ _ _
theorem ok_spec_l29Put : FOk Tryz.prog phi 1025 spec_l29Put_c := fn_ok hm (D := spec_l29Put_D) (DOk.cons ok_spec_l29Before DOk.nil) (by kernel_rfl) _ _ _ _
theorem ok_spec_PutBlock : FOk Tryz.prog phi 876 spec_PutBlock_c := fn_ok hm (D := spec_PutBlock_D) (DOk.cons ok_spec_l29Ok (DOk.cons ok_spec_l29One (DOk.cons ok_spec_l29Put DOk.nil))) (by kernel_rfl) _ _ _ _
theorem ok_spec_l29Draw : FOk Tryz.prog phi 567 spec_l29Draw_c := fn_ok hm (D := spec_l29Draw_D) (DOk.cons ok_spec_l00Src_pick (DOk.cons ok_spec_l29DrawOne (DOk.cons ok_spec_PutBlock DOk.nil))) (by kernel_rfl) _ _ _ _
theorem ok_spec_R8Blocks : FOk Tryz.prog phi 193 spec_R8Blocks_c := fn_ok hm (D := spec_R8Blocks_D) (DOk.cons ok_spec_l00From (DOk.cons ok_spec_l29Draw DOk.nil)) (by kernel_rfl) _ _ _ _
theorem ok_impl_isDigit : FOk Tryz.prog phi 22 impl_isDigit_c := fn_ok hm (D := impl_isDigit_D) DOk.nil (by kernel_rfl) _ _ _ _
theorem ok_impl_few : FOk Tryz.prog phi 21 impl_few_c := fn_ok hm (D := impl_few_D) DOk.nil (by kernel_rfl) _ _ _ _
theorem ok_impl_IsName : FOk Tryz.prog phi 24 impl_IsName_c := fn_ok hm (D := impl_IsName_D) (DOk.cons ok_impl_few (DOk.cons ok_impl_isDigit DOk.nil)) (by kernel_rfl) _ _ _ _
theorem ok_strings_Contains : FOk Tryz.prog phi 565 strings_Contains_c := contains_ok Tryz.laysM144 (of_decide_eq_true (by kernel_rfl)) (by kernel_rfl)
theorem ok_impl_ValidBlock : FOk Tryz.prog phi 570 impl_ValidBlock_c := fn_ok hm (D := impl_ValidBlock_D) (DOk.cons ok_impl_few (DOk.cons ok_impl_IsName (DOk.cons ok_strings_Contains DOk.nil))) (by kernel_rfl) _ _ _ _
theorem ok_strings_Compare : FOk Tryz.prog phi 950 strings_Compare_c := compare_ok Tryz.lays106 (by kernel_rfl)
theorem ok_impl_Block_compare : FOk Tryz.prog phi 828 impl_Block_compare_c := fn_ok hm (D := impl_Block_compare_D) (DOk.cons ok_strings_Compare DOk.nil) (by kernel_rfl) _ _ _ _
theorem ok_impl_ValidBlocks : FOk Tryz.prog phi 569 impl_ValidBlocks_c := fn_ok hm (D := impl_ValidBlocks_D) (DOk.cons ok_impl_few (DOk.cons ok_impl_ValidBlock (DOk.cons ok_impl_Block_compare DOk.nil))) (by kernel_rfl) _ _ _ _
theorem ok_strconv_FormatInt : FOk Tryz.prog phi 864 strconv_FormatInt_c := formatInt_ok Tryz.laysM173 ⟨1,by kernel_rfl⟩ (by kernel_rfl)
theorem ok_impl_Decimal : FOk Tryz.prog phi 524 impl_Decimal_c := fn_ok hm (D := impl_Decimal_D) (DOk.cons ok_strconv_FormatInt DOk.nil) (by kernel_rfl) _ _ _ _
theorem ok_impl_Block_rest : FOk Tryz.prog phi 826 impl_Block_rest_c := fn_ok hm (D := impl_Block_rest_D) DOk.nil (by kernel_rfl) _ _ _ _
theorem ok_impl_within : FOk Tryz.prog phi 23 impl_within_c := fn_ok hm (D := impl_within_D) DOk.nil (by kernel_rfl) _ _ _ _
theorem ok_impl_Crc16 : FOk Tryz.prog phi 990 impl_Crc16_c := fn_ok hm (D := impl_Crc16_D) (DOk.cons ok_impl_within DOk.nil) (by kernel_rfl) _ _ _ _
theorem ok_strings_Repeat : FOk Tryz.prog phi 518 strings_Repeat_c := repeat_ok Tryz.lays105 Tryz.Builder_Extra_105 (by kernel_rfl)
theorem ok_impl_padded : FOk Tryz.prog phi 668 impl_padded_c := fn_ok hm (D := impl_padded_D) (DOk.cons ok_strings_Repeat (DOk.cons ok_impl_Decimal DOk.nil)) (by kernel_rfl) _ _ _ _
theorem ok_impl_lineOf : FOk Tryz.prog phi 827 impl_lineOf_c := fn_ok hm (D := impl_lineOf_D) (DOk.cons ok_impl_padded (DOk.cons ok_impl_Crc16 DOk.nil)) (by kernel_rfl) _ _ _ _
theorem ok_impl_SaveBlocks : FOk Tryz.prog phi 431 impl_SaveBlocks_c := fn_ok hm (D := impl_SaveBlocks_D) (DOk.cons ok_impl_Decimal (DOk.cons ok_impl_ValidBlocks (DOk.cons ok_impl_Block_rest (DOk.cons ok_impl_lineOf DOk.nil)))) (by kernel_rfl) _ _ _ _
theorem ok_strings_CutSuffix : FOk Tryz.prog phi 678 strings_CutSuffix_c := cutSuffix_ok Tryz.lays104 (by kernel_rfl)
theorem ok_strings_Split : FOk Tryz.prog phi 683 strings_Split_c := split_ok Tryz.laysM146 (of_decide_eq_true (by kernel_rfl)) (by kernel_rfl)
theorem ok_strings_CutPrefix : FOk Tryz.prog phi 991 strings_CutPrefix_c := cutPrefix_ok Tryz.lays103 (by kernel_rfl)
section
open Go.Lib
theorem rd_long (s : ByteArray) (w : World) (hl : 18 < (Lib.trimPrefix s.data.toList [45]).length) :
 Calls Tryz.prog 50 #[.string s] w fun e w' => e = .returned (.tuple #[.int .i64 0,.bool false]) ∧ Below w.heap.size w w' := by
 go_enter Tryz.func50,Tryz.ntmps50
 go_wp2_with (go_at_call 85; refine (Tryz.strings_TrimPrefix _ _ _).mono ?_; rintro e w' ⟨rfl,rfl⟩)
 all_goals first
  | (exfalso; omega)
  | (go_ret2; exact ⟨rfl,Below.refl _ _⟩)
theorem rd_bad (s : ByteArray) (w : World) (hl : ¬ 18 < (Lib.trimPrefix s.data.toList [45]).length) (m : Int) (u : TypeId) (hP : Calls Tryz.prog 86 #[.string s,.int .i64 10,.int .i64 64] w fun e w' => ∃ x,e = .returned (.tuple #[.int .i64 m,.iface u x]) ∧ Below w.heap.size w w') :
 Calls Tryz.prog 50 #[.string s] w fun e w' => e = .returned (.tuple #[.int .i64 0,.bool false]) ∧ Below w.heap.size w w' := by
 go_enter Tryz.func50,Tryz.ntmps50
 go_wp2_with (first | (go_at_call 85; refine (Tryz.strings_TrimPrefix _ _ _).mono ?_; rintro e w' ⟨rfl,rfl⟩) | (go_at_call 86; refine hP.mono ?_; rintro e w1 ⟨x,rfl,hw1⟩))
 all_goals first
  | (exfalso; omega)
  | (go_ret2; exact ⟨rfl,hw1⟩)
theorem rd_ok (s : ByteArray) (w : World) (hl : ¬ 18 < (Lib.trimPrefix s.data.toList [45]).length) (v : Int) (hs : Lib.itoa v = s.data.toList) (hP : Calls Tryz.prog 86 #[.string s,.int .i64 10,.int .i64 64] w fun e w' => e = .returned (.tuple #[.int .i64 v,.nilIface]) ∧ Below w.heap.size w w')
 (hF : ∀ w',Below w.heap.size w w' → Calls Tryz.prog 44 #[.int .i64 v,.int .i64 10] w' fun e w'' => e = .returned (.string ⟨(Lib.itoa v).toArray⟩) ∧ Below w'.heap.size w' w'') :
 Calls Tryz.prog 50 #[.string s] w fun e w' => e = .returned (.tuple #[.int .i64 v,.bool true]) ∧ Below w.heap.size w w' := by
 have HS := Lib.hid hs; clear hs
 go_enter Tryz.func50,Tryz.ntmps50
 go_wp2_with (first | (go_at_call 85; refine (Tryz.strings_TrimPrefix _ _ _).mono ?_; rintro e w' ⟨rfl,rfl⟩) | (go_at_call 86; refine hP.mono ?_; rintro e w1 ⟨rfl,hw1⟩) | (go_at_call 44; refine (hF _ hw1).mono ?_; rintro e w2 ⟨rfl,hw2⟩) | go_in)
 all_goals first
  | (exfalso; omega)
  | skip
 ·rename_i h
  exfalso
  rw [HS.out] at h
  simp [Lib.toList_data] at h
 ·go_ret2; exact ⟨rfl,hw1.trans (hw2.mono hw1.size)⟩
theorem rd_no (s : ByteArray) (w : World) (hl : ¬ 18 < (Lib.trimPrefix s.data.toList [45]).length) (v : Int) (hs : Lib.itoa v ≠ s.data.toList) (hP : Calls Tryz.prog 86 #[.string s,.int .i64 10,.int .i64 64] w fun e w' => e = .returned (.tuple #[.int .i64 v,.nilIface]) ∧ Below w.heap.size w w')
 (hF : ∀ w',Below w.heap.size w w' → Calls Tryz.prog 44 #[.int .i64 v,.int .i64 10] w' fun e w'' => e = .returned (.string ⟨(Lib.itoa v).toArray⟩) ∧ Below w'.heap.size w' w'') :
 Calls Tryz.prog 50 #[.string s] w fun e w' => e = .returned (.tuple #[.int .i64 0,.bool false]) ∧ Below w.heap.size w w' := by
 have HS := Lib.hid hs; clear hs
 go_enter Tryz.func50,Tryz.ntmps50
 go_wp2_with (first | (go_at_call 85; refine (Tryz.strings_TrimPrefix _ _ _).mono ?_; rintro e w' ⟨rfl,rfl⟩) | (go_at_call 86; refine hP.mono ?_; rintro e w1 ⟨rfl,hw1⟩) | (go_at_call 44; refine (hF _ hw1).mono ?_; rintro e w2 ⟨rfl,hw2⟩) | go_in)
 all_goals first
  | (exfalso; omega)
  | skip
 ·go_ret2; exact ⟨rfl,hw1.trans (hw2.mono hw1.size)⟩
 ·rename_i h
  exfalso
  apply HS.out
  simpa [Lib.toList_data] using h
end
theorem rd_walk : RdWalk Tryz.prog 50 86 44 := ⟨⟨_,Tryz.func50,by decide +kernel,rfl⟩,rd_long,rd_bad,rd_ok,rd_no⟩
theorem ok_impl_ReadDecimal : FOk Tryz.prog phi 522 impl_ReadDecimal_c := readDecimal_ok Tryz.laysC174 Tryz.laysM173 ⟨1,by kernel_rfl⟩ (by kernel_rfl) (by kernel_rfl) rd_walk (by kernel_rfl)
theorem ok_impl_countOf : FOk Tryz.prog phi 829 impl_countOf_c := fn_ok hm (D := impl_countOf_D) (DOk.cons ok_impl_within (DOk.cons ok_impl_ReadDecimal (DOk.cons ok_strings_CutPrefix DOk.nil))) (by kernel_rfl) _ _ _ _
theorem ok_strings_Cut : FOk Tryz.prog phi 523 strings_Cut_c := cut_ok Tryz.laysM145 (of_decide_eq_true (by kernel_rfl)) (by kernel_rfl)
theorem ok_impl_readBlock : FOk Tryz.prog phi 749 impl_readBlock_c := fn_ok hm (D := impl_readBlock_D) (DOk.cons ok_strings_Cut (DOk.cons ok_impl_ValidBlock (DOk.cons ok_impl_lineOf DOk.nil))) (by kernel_rfl) _ _ _ _
theorem ok_impl_LoadBlocks : FOk Tryz.prog phi 430 impl_LoadBlocks_c := fn_ok hm (D := impl_LoadBlocks_D) (DOk.cons ok_strings_CutSuffix (DOk.cons ok_strings_Split (DOk.cons ok_impl_readBlock (DOk.cons ok_impl_Block_compare (DOk.cons ok_impl_countOf DOk.nil))))) (by kernel_rfl) _ _ _ _
theorem ok_impl_DamagedLines : FOk Tryz.prog phi 334 impl_DamagedLines_c := fn_ok hm (D := impl_DamagedLines_D) (DOk.cons ok_strings_Split (DOk.cons ok_impl_readBlock DOk.nil)) (by kernel_rfl) _ _ _ _
theorem ok_impl_clone_impl_Block_ : FOk Tryz.prog phi 572 impl_clone_impl_Block__c := fn_ok hm (D := impl_clone_impl_Block__D) DOk.nil (by kernel_rfl) _ _ _ _
theorem ok_slices_BinarySearchFunc___impl_Block_impl_Block_impl_Block__impl_Block_compare : FOk Tryz.prog phi 1273 slices_BinarySearchFunc___impl_Block_impl_Block_impl_Block__impl_Block_compare_c := fn_ok hm (D := slices_BinarySearchFunc___impl_Block_impl_Block_impl_Block__impl_Block_compare_D) (DOk.cons ok_impl_Block_compare DOk.nil) (by kernel_rfl) _ _ _ _
theorem ok_impl_blockOf : FOk Tryz.prog phi 571 impl_blockOf_c := fn_ok hm (D := impl_blockOf_D) (DOk.cons ok_impl_Block_compare (DOk.cons ok_slices_BinarySearchFunc___impl_Block_impl_Block_impl_Block__impl_Block_compare DOk.nil)) (by kernel_rfl) _ _ _ _
section
open Go.Shelf Go.Proofs
theorem ins56_info : (Tryz.prog.info? 50).map (fun i => (i.zero,i.size,i.bytes)) = some (some (.agg #[.string ⟨#[]⟩,.string ⟨#[]⟩,.string ⟨#[]⟩]),3,48) := by kernel_rfl
set_option maxHeartbeats 3200000 in
theorem ins56_walk : InsertWalk Tryz.prog 56 3 := ⟨⟨_,Tryz.func56,by decide +kernel,rfl⟩,by
 intro ad va vo vc xs w hx hc h1 hva
 obtain ⟨i,hi,he⟩ := Option.map_eq_some_iff.1 ins56_info
 simp only [Prod.mk.injEq] at he
 obtain ⟨hz0,hsz,hby⟩ := he
 obtain ⟨cp,w1,hrun,q1,q2,q3,q4,q5⟩ := ins_nil (vc := vc) (ad := ad) Tryz.underlying24 hi hsz hz0 rfl (by rw [hby]; decide) hx hc h1 24
 go_enter Tryz.func56,Tryz.ntmps56
 go_wp2_with (first | (at_builtin; refine Go.Lib.wpList_append_run _ rfl _ _ _ _ rfl _ _ rfl rfl _ _ hrun ?_) | fail)
 go_ret
 exact ⟨_,cp,rfl,q1,Nat.le_refl _,q2,q3,q4,q5⟩,by
 intro b o n c i va vo vc cs xs w hc0 hnc hin hn hl hcs hr hx hc hne h1c h1 hva hsh
 obtain ⟨iE,hi,he⟩ := Option.map_eq_some_iff.1 ins56_info
 simp only [Prod.mk.injEq] at he
 obtain ⟨hz0,hsz,hby⟩ := he
 have hbw : b < w.heap.size := hr.lt
 rcases Nat.lt_or_ge i n with hlt | hge
 ·have hI : ¬ ((i : Int) = (n : Int)) := by omega
  have hszm : (Tryz.prog.info? 50).map (·.size) = some 3 := by rw [hi]; simp [hsz]
  have hzE : ∀ w,(Go.sizeOf 50).run Tryz.prog w = .ok 3 w := fun w => by simp [Go.sizeOf,typeInfo,hi,hsz]
  have hdl : (cs.drop (i * 3)).length = (n - i) * 3 := by rw [List.length_drop,hl]; omega
  have h1d : ∀ v ∈ cs.drop (i * 3),v.oneCell' = true := fun v hv => h1c v (List.mem_of_mem_drop hv)
  have hb1 : (0 : Int) ≤ (i : Int) + 1 := by omega
  have htn : ((i : Int) + 1).toNat = i + 1 := by omega
  by_cases hroom : n + 1 ≤ c
  ·obtain ⟨tA,kA,hsa,hkA⟩ := hsh
   obtain ⟨C,eC,frC,g1,g2,g3⟩ := id hr
   have hsb : w.shape? b = some (eC,C.size) := by simp [World.shape?,g1]
   have hov : ∀ lb cb,(callFunc 90 #[.slice (some ⟨va,vo,none⟩) 1 vc,.slice (some ⟨b,o + (i + 1) * 3,none⟩) lb cb]).run Tryz.prog w = .ok (.value (.bool false)) w := fun lb cb => by
    rw [run_callFunc_extern Tryz.func90 (by kernel_rfl) (by kernel_rfl) (by kernel_rfl) (e := Extern.SlicesOverlaps.overlaps #[24,24] #[4]) (by kernel_rfl),
     Go.Lib.run_overlaps_own w 24 4 50 Tryz.underlying24 3 hzE ⟨va,vo,none⟩ ⟨b,o + (i + 1) * 3,none⟩ 1 vc lb cb hne tA eC kA C.size hsa hsb hkA (g3 _ (.inl (by omega))) (g3 _ (.inr ⟨rfl,by decide⟩))]
    rfl
   have hcs0 : Cells w.drew b o cs := fun j v hj => hcs j v hj
   have hr0 : Room 3 w.drew b (o + c * 3) := hr
   have hcp1 : ∀ ty dc sc,(Builtin.copy_ #[24,24] ty #[.slice (some ⟨b,o + (i + 1) * 3,none⟩) (n - i) dc,.slice (some ⟨b,o + i * 3,none⟩) (n + 1 - i) sc]).run Tryz.prog w.drew = .ok (goInt ((n - i : Nat) : Int)) (w.drew.setCells b (o + (i + 1) * 3) (cs.drop (i * 3))) := fun ty dc sc =>
    run_copy_cellsZ w.drew _ _ ty 50 b (o + (i + 1) * 3) (n - i) dc ⟨b,o + i * 3,none⟩ (n + 1 - i) sc (cs.drop (i * 3)) 3 (n - i) Tryz.underlying24 hszm (by simp only [Nat.min_def]; split <;> omega) hdl
     (fun j v hj => by
       rw [World.cell?_add]
       exact (hcs0.drop (i * 3)) j v hj) (fun j hj => (hr0.cell (by omega)).1) (fun j hj => (hr0.cell (by omega)).2) h1d
   obtain ⟨W1,hW1⟩ : ∃ W1,W1 = w.drew.setCells b (o + (i + 1) * 3) (cs.drop (i * 3)) := ⟨_,rfl⟩
   have hT1 : Turned b w W1 := by rw [hW1]; exact ((Turned.refl b w).drew).setCells (.inl rfl) _ _
   have hr1 : Room 3 W1 b (o + c * 3) := by rw [hW1]; exact room_setCells _ _ _ hr0
   have hx1 : Cells W1 va vo xs := hc.of_block (hT1.block va hva hne)
   have hcp2 : ∀ ty dc,(Builtin.copy_ #[24,24] ty #[.slice (some ⟨b,o + i * 3,none⟩) (n + 1 - i) dc,.slice (some ⟨va,vo,none⟩) 1 vc]).run Tryz.prog W1 = .ok (goInt 1) (W1.setCells b (o + i * 3) xs) := fun ty dc =>
    run_copy_cellsZ W1 _ _ ty 50 b (o + i * 3) (n + 1 - i) dc ⟨va,vo,none⟩ 1 vc xs 3 1 Tryz.underlying24 hszm (by simp only [Nat.min_def]; split <;> omega) (by omega)
     (fun j v hj => by rw [World.cell?_add]; exact hx1 j v hj) (fun j hj => (hr1.cell (by omega)).1) (fun j hj => (hr1.cell (by omega)).2) h1
   have fin : Cells (W1.setCells b (o + i * 3) xs) b o (cs.take (i * 3) ++ xs ++ cs.drop (i * 3)) := by
    rw [hW1]
    exact ins_place hlt hroom hl hcs0 hr0 hx
   have finT : Turned b w (W1.setCells b (o + i * 3) xs) := hT1.setCells (.inl rfl) _ _
   have finR : Room 3 (W1.setCells b (o + i * 3) xs) b (o + c * 3) := room_setCells _ _ _ hr1
   have hngt : ¬ ((n : Int) + 1 > (c : Int)) := by omega
   have hci : ¬ (c = i) := by omega
   have hci1 : ¬ (c = i + 1) := by omega
   have hb3 : (i : Int) ≤ (n : Int) + 1 := by omega
   have hw1 : IntKind.i64.wrap ((i : Int) + 1) = (i : Int) + 1 := by rw [IntKind.wrap_i64]; omega
   have mixed : Tryz.prog.follows .mixedOrders = true := by kernel_rfl
   clear hcs0 hr0 hr1 hx1 hT1 g1 g2 g3 hsb hsa
   subst hW1
   go_enter Tryz.func56,Tryz.ntmps56
   go_wp2_with (simp only [hov])
   go_region_law_o (refine step_copy_runI rfl _ _ 24 24 rfl _ _ (by simp [Act.eval,Act.put]) (by simp [Act.eval,Act.put]) (hcp1 _ _ _) ?_)
   go_wp2_with (at_builtin; refine wpList_copy_runI _ rfl _ _ 24 24 rfl _ _ rfl rfl (hcp2 _ _) ?_)
   go_ret
   exact ⟨b,o,c,rfl,hroom,.inl rfl,fin,finR,finT⟩
  ·have hgt : (n : Int) + 1 > (c : Int) := by omega
   have hzc : ∀ k,(Builtin.zeroCells (Value.agg #[.string ⟨#[]⟩,.string ⟨#[]⟩,.string ⟨#[]⟩]).cells k).size = k * 3 := fun k => by rw [size_zeroCells]; rfl
   have hold : (Builtin.firstCells iE.size i (.slice (some ⟨b,o,none⟩) i c)).run Tryz.prog w.drew = .ok (cs.take (i * 3)).toArray w.drew := by
    rw [hsz]
    exact run_firstCells_some w.drew 3 i ⟨b,o,none⟩ i c (cs.take (i * 3)) (by rw [List.length_take]; omega) (fun j v hj => by
     rw [World.cell?_add]
     exact (hcs.take (i * 3)) j v hj)
   have hik : i + (n + 1 - i) = n + 1 := by omega
   have hkk : (n : Int) + 1 - (i : Int) = ((n + 1 - i : Nat) : Int) := by omega
   have hrz := Go.Lib.run_append_grow_zeros w 24 3 24 50 iE _ .i64 .i64 Tryz.underlying24 Tryz.underlying3 hi hz0 (some ⟨b,o,none⟩) i c (cs.take (i * 3)) hold (n + 1 - i) (by omega) (by omega) (by omega) (by omega) (by rw [hby]; omega) (by rw [hby,hik]; exact growslice_fits (by omega) (by omega))
   rw [hik,← hkk] at hrz
   obtain ⟨G,hG⟩ : ∃ G,G = grownCap w (n + 1) c 50 := ⟨_,rfl⟩
   have hGn : n + 1 ≤ G := by rw [hG]; exact grownCap_ge w _ _ _
   rw [← hG] at hrz
   obtain ⟨ROW,hROW⟩ : ∃ ROW : Array Value,ROW = (cs.take (i * 3)).toArray ++ Builtin.zeroCells (Value.agg #[.string ⟨#[]⟩,.string ⟨#[]⟩,.string ⟨#[]⟩]).cells (n + 1 - i) ++ Builtin.zeroCells (Value.agg #[.string ⟨#[]⟩,.string ⟨#[]⟩,.string ⟨#[]⟩]).cells (G - (n + 1)) := ⟨_,rfl⟩
   rw [← hROW] at hrz
   have hRs : ROW.size = G * 3 := by
    rw [hROW,Array.size_append,Array.size_append,hzc,hzc,List.size_toArray,List.length_take]
    omega
   have hh : (w.drew.alloc (.cells ROW 50)).heap = w.heap.push (.cells ROW 50) := rfl
   have hcell0 : Cells (w.drew.alloc (.cells ROW 50)) w.heap.size 0 (cs.take (i * 3) ++ (Builtin.zeroCells (Value.agg #[.string ⟨#[]⟩,.string ⟨#[]⟩,.string ⟨#[]⟩]).cells (n + 1 - i)).toList) := by
    have := cells_push hh
    have e : ROW.toList = (cs.take (i * 3) ++ (Builtin.zeroCells (Value.agg #[.string ⟨#[]⟩,.string ⟨#[]⟩,.string ⟨#[]⟩]).cells (n + 1 - i)).toList) ++ (Builtin.zeroCells (Value.agg #[.string ⟨#[]⟩,.string ⟨#[]⟩,.string ⟨#[]⟩]).cells (G - (n + 1))).toList := by rw [hROW]; simp
    rw [e] at this
    exact this.left
   have hroomN : Room 3 (w.drew.alloc (.cells ROW 50)) w.heap.size (G * 3) := by rw [← hRs]; exact room_push hh
   have hT : Turned b w (w.drew.alloc (.cells ROW 50)) := ((Turned.refl b w).drew).alloc _
   obtain ⟨W1,hW1⟩ : ∃ W1,W1 = w.drew.alloc (.cells ROW 50) := ⟨_,rfl⟩
   have hW1s : W1.heap.size = w.heap.size + 1 := by rw [hW1,hh]; simp
   rw [← hW1] at hrz hcell0 hroomN hT
   have hxW : Cells W1 va vo xs := hc.of_block (hT.block va hva hne)
   have hcW : Cells W1 b o cs := fun j v hj => by
    have : W1.heap[b]? = w.heap[b]? := by rw [hW1,hh,Array.getElem?_push_lt hbw,Array.getElem?_eq_getElem hbw]
    have h := hcs j v hj
    simp only [World.cell?,this] at h ⊢
    exact h
   have hcpA : ∀ ty dc,(Builtin.copy_ #[24,24] ty #[.slice (some ⟨w.heap.size,i * 3,none⟩) (n + 1 - i) dc,.slice (some ⟨va,vo,none⟩) 1 vc]).run Tryz.prog W1 = .ok (goInt 1) (W1.setCells w.heap.size (i * 3) xs) := fun ty dc =>
    run_copy_cellsZ W1 _ _ ty 50 w.heap.size (i * 3) (n + 1 - i) dc ⟨va,vo,none⟩ 1 vc xs 3 1 Tryz.underlying24 hszm (by simp only [Nat.min_def]; split <;> omega) (by omega)
     (fun j v hj => by rw [World.cell?_add]; exact hxW j v hj) (fun j hj => (hroomN.cell (by omega)).1) (fun j hj => (hroomN.cell (by omega)).2) h1
   obtain ⟨W2,hW2⟩ : ∃ W2,W2 = (W1.setCells w.heap.size (i * 3) xs).drew := ⟨_,rfl⟩
   have hT2 : Turned b w W2 := by rw [hW2]; exact (hT.setCells (.inr (Nat.le_refl _)) _ _).drew
   have hroom2 : Room 3 W2 w.heap.size (G * 3) := by rw [hW2]; exact room_setCells (b := w.heap.size) xs (i * 3) W1 hroomN
   have hcW2 : Cells W2 b o cs := by
    have : W2.heap[b]? = W1.heap[b]? := by rw [hW2]; exact setCells_block _ _ _ _ _ (by omega)
    exact hcW.of_block this
   have hcpB : ∀ ty dc sc,(Builtin.copy_ #[24,24] ty #[.slice (some ⟨w.heap.size,(i + 1) * 3,none⟩) (n + 1 - (i + 1)) dc,.slice (some ⟨b,o + i * 3,none⟩) (n - i) sc]).run Tryz.prog W2 = .ok (goInt ((n - i : Nat) : Int)) (W2.setCells w.heap.size ((i + 1) * 3) (cs.drop (i * 3))) := fun ty dc sc =>
    run_copy_cellsZ W2 _ _ ty 50 w.heap.size ((i + 1) * 3) (n + 1 - (i + 1)) dc ⟨b,o + i * 3,none⟩ (n - i) sc (cs.drop (i * 3)) 3 (n - i) Tryz.underlying24 hszm (by simp only [Nat.min_def]; split <;> omega) hdl
     (fun j v hj => by
       rw [World.cell?_add]
       have := (hcW2.drop (i * 3)) j v hj
       exact this) (fun j hj => (hroom2.cell (by omega)).1) (fun j hj => (hroom2.cell (by omega)).2) h1d
   have hGi : ¬ (G = i) := by omega
   have hGi1 : ¬ (G = i + 1) := by omega
   have hci : ¬ (c = i) := by omega
   have hb3 : (i : Int) ≤ (n : Int) := by omega
   have hw1 : IntKind.i64.wrap ((i : Int) + 1) = (i : Int) + 1 := by rw [IntKind.wrap_i64]; omega
   have fin : Cells (W2.setCells w.heap.size ((i + 1) * 3) (cs.drop (i * 3))) w.heap.size 0 (cs.take (i * 3) ++ xs ++ cs.drop (i * 3)) := by
    have := new_place (w := W1) hlt hl hx (by rw [Array.length_toList,hzc]) hcell0 hroomN (by omega)
    rw [hW2,← drew_setCells]
    intro j v hj
    exact this j v hj
   have finT : Turned b w (W2.setCells w.heap.size ((i + 1) * 3) (cs.drop (i * 3))) := hT2.setCells (.inr (Nat.le_refl _)) _ _
   have finR : Room 3 (W2.setCells w.heap.size ((i + 1) * 3) (cs.drop (i * 3))) w.heap.size (0 + G * 3) := by rw [Nat.zero_add]; exact room_setCells _ _ _ hroom2
   have finS : w.heap.size < (W2.setCells w.heap.size ((i + 1) * 3) (cs.drop (i * 3))).heap.size := by
    rw [setCells_size,hW2]
    show w.heap.size < (W1.setCells w.heap.size (i * 3) xs).heap.size
    rw [setCells_size,hW1s]; omega
   subst hW2
   clear hkk hik hold hROW hG hRs hW1 hh hcell0 hroomN hroom2 hcW hcW2 hxW hzc
   go_enter Tryz.func56,Tryz.ntmps56
   go_wp2_with (first
    | (at_builtin; refine Go.Lib.wpList_append_run _ rfl _ _ _ _ rfl _ _ rfl rfl _ _ hrz ?_)
    | (at_builtin; refine wpList_copy_runI _ rfl _ _ 24 24 rfl _ _ rfl rfl (hcpA _ _) ?_))
   have mixed : Tryz.prog.follows .mixedOrders = true := by kernel_rfl
   go_region_law_o (refine step_copy_runI rfl _ _ 24 24 rfl (.slice (some ⟨w.heap.size,(i + 1) * 3,none⟩) (n + 1 - (i + 1)) (G - (i + 1))) (.slice (some ⟨b,o + i * 3,none⟩) (n - i) (c - i)) (by simp [Act.eval,Act.put]) (by simp [Act.eval,Act.put]) (hcpB 3 (G - (i + 1)) (c - i)) ?_)
   go_wp2
   go_ret
   exact ⟨w.heap.size,0,G,rfl,hGn,.inr ⟨Nat.le_refl _,finS⟩,fin,finR,finT⟩
 ·obtain rfl : i = n := by omega
  obtain ⟨b',o',cp,w1,hrun,q1,q2,q3,q4,q5⟩ := ins_end (vc := vc) Tryz.underlying24 hi hsz hz0 rfl (by rw [hby]; decide) hnc hn hl hcs hr hx hc h1 24
  go_enter Tryz.func56,Tryz.ntmps56
  go_wp2_with (first | (at_builtin; refine Go.Lib.wpList_append_run _ rfl _ _ _ _ rfl _ _ rfl rfl _ _ hrun ?_) | fail)
  all_goals go_ret
  all_goals refine ⟨b',o',cp,rfl,q1,q2,?_,q4,q5⟩
  all_goals (rw [List.take_of_length_le (by omega),List.drop_eq_nil_of_le (by omega),List.append_nil]; exact q3)⟩
end
theorem ok_slices_Insert___impl_Block_impl_Block_ : FOk Tryz.prog phi 877 slices_Insert___impl_Block_impl_Block__c := insert_ok (E := T_Block) (by kernel_rfl) (by kernel_rfl) (by decide) ins56_walk (by kernel_rfl)
theorem ok_impl_put : FOk Tryz.prog phi 568 impl_put_c := fn_ok hm (D := impl_put_D) (DOk.cons ok_impl_blockOf (DOk.cons ok_impl_clone_impl_Block_ (DOk.cons ok_slices_Insert___impl_Block_impl_Block_ DOk.nil))) (by kernel_rfl) _ _ _ _
theorem ok_impl_SalvageBlocks : FOk Tryz.prog phi 333 impl_SalvageBlocks_c := fn_ok hm (D := impl_SalvageBlocks_D) (DOk.cons ok_impl_put (DOk.cons ok_strings_Split (DOk.cons ok_impl_readBlock DOk.nil))) (by kernel_rfl) _ _ _ _
theorem ok_spec_l29Same : FOk Tryz.prog phi 574 spec_l29Same_c := fn_ok hm (D := spec_l29Same_D) DOk.nil (by kernel_rfl) _ _ _ _
theorem ok_spec_SameBlocks : FOk Tryz.prog phi 187 spec_SameBlocks_c := fn_ok hm (D := spec_SameBlocks_D) (DOk.cons ok_spec_l29Same DOk.nil) (by kernel_rfl) _ _ _ _
theorem ok_spec_l01Crc : FOk Tryz.prog phi 1050 spec_l01Crc_c := fn_ok hm (D := spec_l01Crc_D) DOk.nil (by kernel_rfl) _ _ _ _
theorem ok_spec_l29Five : FOk Tryz.prog phi 1051 spec_l29Five_c := fn_ok hm (D := spec_l29Five_D) (DOk.cons ok_spec_l01Dec DOk.nil) (by kernel_rfl) _ _ _ _
theorem ok_spec_l29Line : FOk Tryz.prog phi 961 spec_l29Line_c := fn_ok hm (D := spec_l29Line_D) (DOk.cons ok_spec_l01Crc (DOk.cons ok_spec_l29Five DOk.nil)) (by kernel_rfl) _ _ _ _
theorem ok_spec_l29Save : FOk Tryz.prog phi 748 spec_l29Save_c := fn_ok hm (D := spec_l29Save_D) (DOk.cons ok_spec_l01Dec (DOk.cons ok_spec_l29Line DOk.nil)) (by kernel_rfl) _ _ _ _
theorem ok_spec_SaveBlocks : FOk Tryz.prog phi 335 spec_SaveBlocks_c := fn_ok hm (D := spec_SaveBlocks_D) (DOk.cons ok_spec_l29Ok (DOk.cons ok_spec_l29Save DOk.nil)) (by kernel_rfl) _ _ _ _
theorem ok_laws_r8At : FOk Tryz.prog phi 151 laws_r8At_c := fn_ok hm (D := laws_r8At_D) DOk.nil (by kernel_rfl) _ _ _ _
theorem ok_laws_r8Wide : FOk Tryz.prog phi 146 laws_r8Wide_c := fn_ok hm (D := laws_r8Wide_D) (DOk.cons ok_laws_r8At DOk.nil) (by kernel_rfl) _ _ _ _
theorem ok_spec_l21Draw : FOk Tryz.prog phi 830 spec_l21Draw_c := fn_ok hm (D := spec_l21Draw_D) (DOk.cons ok_spec_l00Src_pick (DOk.cons ok_spec_l21DrawOne DOk.nil)) (by kernel_rfl) _ _ _ _
theorem ok_spec_R8Rentals : FOk Tryz.prog phi 429 spec_R8Rentals_c := fn_ok hm (D := spec_R8Rentals_D) (DOk.cons ok_spec_l00From (DOk.cons ok_spec_l21Draw DOk.nil)) (by kernel_rfl) _ _ _ _
theorem ok_impl_isRentDay : FOk Tryz.prog phi 623 impl_isRentDay_c := fn_ok hm (D := impl_isRentDay_D) (DOk.cons ok_impl_within DOk.nil) (by kernel_rfl) _ _ _ _
theorem ok_impl_isMonths : FOk Tryz.prog phi 1032 impl_isMonths_c := fn_ok hm (D := impl_isMonths_D) (DOk.cons ok_impl_within DOk.nil) (by kernel_rfl) _ _ _ _
theorem ok_impl_isMoney : FOk Tryz.prog phi 1033 impl_isMoney_c := fn_ok hm (D := impl_isMoney_D) (DOk.cons ok_impl_within DOk.nil) (by kernel_rfl) _ _ _ _
theorem ok_impl_Rental_valid : FOk Tryz.prog phi 900 impl_Rental_valid_c := fn_ok hm (D := impl_Rental_valid_D) (DOk.cons ok_impl_IsName (DOk.cons ok_impl_isRentDay (DOk.cons ok_impl_isMonths (DOk.cons ok_impl_isMoney DOk.nil)))) (by kernel_rfl) _ _ _ _
theorem ok_impl_ValidRentals : FOk Tryz.prog phi 611 impl_ValidRentals_c := fn_ok hm (D := impl_ValidRentals_D) (DOk.cons ok_impl_few (DOk.cons ok_impl_Rental_valid DOk.nil)) (by kernel_rfl) _ _ _ _
theorem ok_strings_Join : FOk Tryz.prog phi 630 strings_Join_c := join_ok Tryz.lays156 Tryz.Builder_Extra_156 (by kernel_rfl)
theorem ok_impl_ListText : FOk Tryz.prog phi 460 impl_ListText_c := fn_ok hm (D := impl_ListText_D) (DOk.cons ok_impl_few (DOk.cons ok_impl_within (DOk.cons ok_impl_Decimal (DOk.cons ok_strings_Join DOk.nil)))) (by kernel_rfl) _ _ _ _
theorem ok_impl_named : FOk Tryz.prog phi 459 impl_named_c := fn_ok hm (D := impl_named_D) (DOk.cons ok_impl_ListText DOk.nil) (by kernel_rfl) _ _ _ _
theorem ok_impl_RentalText : FOk Tryz.prog phi 831 impl_RentalText_c := fn_ok hm (D := impl_RentalText_D) (DOk.cons ok_impl_named (DOk.cons ok_impl_Rental_valid DOk.nil)) (by kernel_rfl) _ _ _ _
theorem ok_impl_BlocksOfRentals : FOk Tryz.prog phi 428 impl_BlocksOfRentals_c := fn_ok hm (D := impl_BlocksOfRentals_D) (DOk.cons ok_impl_ValidRentals (DOk.cons ok_impl_RentalText DOk.nil)) (by kernel_rfl) _ _ _ _
theorem ok_impl_SplitWords : FOk Tryz.prog phi 458 impl_SplitWords_c := fn_ok hm (D := impl_SplitWords_D) (DOk.cons ok_strings_Split DOk.nil) (by kernel_rfl) _ _ _ _
theorem ok_impl_ReadList : FOk Tryz.prog phi 457 impl_ReadList_c := fn_ok hm (D := impl_ReadList_D) (DOk.cons ok_impl_within (DOk.cons ok_impl_ReadDecimal (DOk.cons ok_strings_Split DOk.nil))) (by kernel_rfl) _ _ _ _
theorem ok_impl_ReadRental : FOk Tryz.prog phi 832 impl_ReadRental_c := fn_ok hm (D := impl_ReadRental_D) (DOk.cons ok_impl_ReadList (DOk.cons ok_impl_SplitWords (DOk.cons ok_impl_RentalText DOk.nil))) (by kernel_rfl) _ _ _ _
theorem ok_impl_RentalsOfBlocks : FOk Tryz.prog phi 427 impl_RentalsOfBlocks_c := fn_ok hm (D := impl_RentalsOfBlocks_D) (DOk.cons ok_impl_few (DOk.cons ok_impl_ValidBlocks (DOk.cons ok_impl_ReadRental DOk.nil))) (by kernel_rfl) _ _ _ _
theorem ok_spec_l00In : FOk Tryz.prog phi 1 spec_l00In_c := fn_ok hm (D := spec_l00In_D) DOk.nil (by kernel_rfl) _ _ _ _
theorem ok_spec_l21Day : FOk Tryz.prog phi 993 spec_l21Day_c := fn_ok hm (D := spec_l21Day_D) (DOk.cons ok_spec_l00In DOk.nil) (by kernel_rfl) _ _ _ _
theorem ok_spec_l21Money : FOk Tryz.prog phi 994 spec_l21Money_c := fn_ok hm (D := spec_l21Money_D) (DOk.cons ok_spec_l00In DOk.nil) (by kernel_rfl) _ _ _ _
theorem ok_spec_l21One : FOk Tryz.prog phi 834 spec_l21One_c := fn_ok hm (D := spec_l21One_D) (DOk.cons ok_spec_l00In (DOk.cons ok_spec_l01Name (DOk.cons ok_spec_l21Day (DOk.cons ok_spec_l21Money DOk.nil)))) (by kernel_rfl) _ _ _ _
theorem ok_spec_RentalText : FOk Tryz.prog phi 426 spec_RentalText_c := fn_ok hm (D := spec_RentalText_D) (DOk.cons ok_spec_l21Text (DOk.cons ok_spec_l21One DOk.nil)) (by kernel_rfl) _ _ _ _
theorem ok_laws_FnFrames : FOk Tryz.prog phi 1276 laws_FnFrames_c := fn_ok hm (D := laws_FnFrames_D) (DOk.cons ok_laws_r8Long (DOk.cons ok_laws_r8Wide (DOk.cons ok_laws_r8At (DOk.cons ok_spec_SameBlocks (DOk.cons ok_spec_R8Blocks (DOk.cons ok_impl_SalvageBlocks (DOk.cons ok_impl_DamagedLines (DOk.cons ok_spec_SaveBlocks (DOk.cons ok_spec_RentalText (DOk.cons ok_impl_RentalsOfBlocks (DOk.cons ok_impl_BlocksOfRentals (DOk.cons ok_spec_R8Rentals (DOk.cons ok_impl_LoadBlocks (DOk.cons ok_impl_SaveBlocks DOk.nil)))))))))))))) (by kernel_rfl) _ _ _ _
theorem law : ∀ x,wfU laws_FnFrames_c.ps x → ∃ y,laws_FnFrames_c.f x = some y ∧ resA laws_FnFrames_c y = ([A.bool true],[]) := fun x hx => ⟨true,(laws_FnFrames_true x.1 x.2.1 hx.1 hx.2.1),rfl⟩
theorem own : ownKnob Tryz.prog.godebug = none := by kernel_rfl
theorem laid : laidOutB Tryz.prog = true := by kernel_rfl
theorem reads : ∀ t ∈ Tryz.f3.params.toList,Tryz.prog.readableRec t = true ∧ t < Tryz.prog.types.size := by
 have h : (Tryz.f3.params.toList.all fun t => Tryz.prog.readableRec t && decide (t < Tryz.prog.types.size)) = true := by kernel_rfl
 intro t ht
 have := List.all_eq_true.1 h t ht
 simpa only [Bool.and_eq_true,decide_eq_true_eq] using this
theorem spec_eq (H : Type) : ∀ (ds : List (DataW H)),ds.length = Tryz.f3.params.toList.length → Rows.fnFramesSpec.fn H ds = { results := [.lit (.bool true)],args := ds } := by
 intro ds hd
 have hd : ds.length = 2 := hd
 match ds,hd with
 | [d0,d1],_ => rfl
theorem tab (W : World) (hL : laidMetH Tryz.prog Rows.fnFramesRow.laid W) : ∀ i,Tryz.prog.globalNamed pow10Name = some i → Lib.TabIs Tryz.prog W pow10Name .u64 Lib.pow10Tab := by
 intro i hi
 have hp : (Rows.fnFramesRow.laid.all fun x => x.2.handleName?.isNone) = true := by kernel_rfl
 rw [MakeChecks.laidMetH_plain _ _ _ hp] at hL
 have h1 : laidMet Tryz.prog (("internal/strconv.uint64pow10",Rows.laid_internal_strconv_uint64pow10) :: [("unicode/utf8.acceptRanges",Rows.laid_unicode_utf8_acceptRanges),("strconv.ErrRange",Rows.laid_strconv_ErrRange),("strconv.ErrSyntax",Rows.laid_strconv_ErrSyntax),("unicode/utf8.first",Rows.laid_unicode_utf8_first)]) W := (laidMet.tail (laidMet.tail hL))
 have e : (Rows.laid_internal_strconv_uint64pow10 : DataW Unit) = Lib.tabData .u64 Lib.pow10Tab := by kernel_rfl
 rw [e] at h1
 exact Lib.tabIs_of_head (t := 141) (e := 72) (n := 20) hi (by obtain rfl := Option.some.inj ((show Tryz.prog.globalNamed pow10Name = some 1 by kernel_rfl).symm.trans hi); kernel_rfl) (by kernel_rfl) (by kernel_rfl) (by kernel_rfl) (by kernel_rfl) h1
theorem errs (W : World) (hL : laidMetH Tryz.prog Rows.fnFramesRow.laid W) : ∀ n,errNames.contains n = true → ∀ i,Tryz.prog.globalNamed n = some i → ∃ u v,W.var? Tryz.prog n = some #[.iface u v] := by
 intro n hn i hi
 have hn : n = "strconv.ErrSyntax" ∨ n = "strconv.ErrRange" := by simpa [errNames] using hn
 have hp : (Rows.fnFramesRow.laid.all fun x => x.2.handleName?.isNone) = true := by kernel_rfl
 rw [MakeChecks.laidMetH_plain _ _ _ hp] at hL
 rcases hn with rfl | rfl
 ·have h1 : laidMet Tryz.prog (("strconv.ErrSyntax",Rows.laid_strconv_ErrSyntax) :: [("unicode/utf8.first",Rows.laid_unicode_utf8_first)]) W := (laidMet.tail (laidMet.tail (laidMet.tail (laidMet.tail (laidMet.tail hL)))))
  exact laid_iface (ti := 110) h1 ⟨_,_,rfl⟩ hi (by obtain rfl := Option.some.inj ((show Tryz.prog.globalNamed "strconv.ErrSyntax" = some 4 by kernel_rfl).symm.trans hi); kernel_rfl) Tryz.underlying110
 ·have h1 : laidMet Tryz.prog (("strconv.ErrRange",Rows.laid_strconv_ErrRange) :: [("strconv.ErrSyntax",Rows.laid_strconv_ErrSyntax),("unicode/utf8.first",Rows.laid_unicode_utf8_first)]) W := (laidMet.tail (laidMet.tail (laidMet.tail (laidMet.tail hL))))
  exact laid_iface (ti := 110) h1 ⟨_,_,rfl⟩ hi (by obtain rfl := Option.some.inj ((show Tryz.prog.globalNamed "strconv.ErrRange" = some 5 by kernel_rfl).symm.trans hi); kernel_rfl) Tryz.underlying110
theorem contract (H : Type) (enc : TypeId × Value → H) (W : World) (base : Nat) (args : Array Value) (ds gs : List (DataW H)) (before : List MemPlace)
 (hval : ∀ (j : Nat) t v,Tryz.f3.params[j]? = some t → args[j]? = some v → Value.okWide Tryz.prog W .any base t v)
 (hW : DataW.Whole enc Tryz.prog Tryz.f3.params.toList Rows.fnFramesSpec.vars false W args.toList ds gs before) (hL : laidMetH Tryz.prog Rows.fnFramesRow.laid W) (hsh : W.ShapedOpen Tryz.prog) :
 Calls Tryz.prog 3 args W fun e W' => ∃ v,e = .returned v ∧ Rows.fnFramesSpec.post enc Tryz.prog Tryz.f3 false true false false W args v W' :=
 row_contract (φ := phi) (g := 1276) (n := 20) ok_laws_FnFrames rfl rfl (tb := 4) Tryz.underlying4 (by kernel_rfl) rfl law laid reads spec_eq W base args ds gs before hval hW (Glob.start hsh (tab W hL) (errs W hL))
theorem lifted (os : Os) (started : os.Started) (H : Type) (enc : TypeId × Value → H) :
 ReturnsInHanded {} Tryz.checked os 3 .any (fun w args => (Rows.fnFramesSpec.pre enc Tryz.prog Tryz.f3 Rows.fnFramesRow.domain false w args ∧ laidMetH Tryz.prog Rows.fnFramesRow.laid w) ∧ sizedMet enc Tryz.prog Tryz.f3 (OpenSpec.ofChange Rows.fnFramesSpec) false w args) (Rows.fnFramesSpec.post enc Tryz.prog Tryz.f3 false true false false) := by
 refine returnsInHanded_laid (C := Tryz.checked) (laid := Rows.fnFramesRow.laid) own started (by kernel_rfl) Tryz.func3
  (ChangeSpec.witness_shaped (enc := enc) (C := Tryz.checked) (os := os) (X := fun w _ => laidMetH Tryz.prog Rows.fnFramesRow.laid w) false (World.laidAll Tryz.prog os Rows.fnFramesRow.laid) #[.slice none 0 0,.slice none 0 0] 12 (World.laidAll_os _ _ _)
    (World.shaped_of_ZipB (by kernel_rfl) (by kernel_rfl)) (by kernel_rfl) (by kernel_rfl) (by kernel_rfl)
    (by rw [MakeChecks.laidMetH_plain _ _ _ (by kernel_rfl)]; exact laidMet_laidAll _ (by kernel_rfl) (by kernel_rfl))) ?_
 intro W base args ds gs before hval hW hL hsh
 exact contract H enc W base args ds gs before hval hW hL hsh
theorem over : Rows.fnFramesRow.holds Tryz.pinned (OpenSpec.ofChange Rows.fnFramesSpec) :=
 OpenClaim.holds_of_wide 3 Tryz.f3 rfl rfl rfl rfl rfl rfl rfl ⟨rfl,rfl,rfl,rfl,rfl⟩ rfl rfl rfl rfl rfl (by kernel_rfl) Tryz.func3 (by kernel_rfl)
  (of_decide_eq_true (by kernel_rfl)) (by unfold Func.isWrapper; first | (rw [if_pos (by decide +kernel)]; kernel_rfl) | (rw [if_neg (by decide +kernel)]; exact ⟨rfl,rfl⟩))
  (fun os started H enc _ => lifted os started H enc)
theorem card : Rows.FnFramesCardSaid :=
 Claim7.holds_tied_plain_at .later [] [.data,.data,.data,.data,.sentinel,.sentinel,.pinned] true (true,"0a22ed3f06701472aa3beb0bb45e9a6624fc7a3f03243a559330cd48c3ed53e9") true over (fun _ h => by cases h) (by kernel_rfl) (fun _ h => by cases h) fnFrames_row_tie rfl ⟨rfl,rfl⟩ (by kernel_rfl) rfl
  (fun f fn hf hfn => by
    obtain rfl : f = 3 := Option.some.inj ((show Tryz.prog.funcNamed "loop.example/g01061/laws.FnFrames" = some 3 by kernel_rfl).symm.trans hf) |>.symm
    obtain rfl : fn = Tryz.f3 := (Option.some.inj (Tryz.func3.symm.trans hfn)).symm
    exact ⟨by kernel_rfl,fun j t ht => by
     have hm : t ∈ Tryz.f3.params.toList := by simpa using Array.mem_of_getElem? ht
     have hall : (Tryz.f3.params.toList.all fun u => !Tryz.prog.wantsStandIn u) = true := by kernel_rfl
     exact (show Tryz.prog.wantsStandIn t = false by simpa using List.all_eq_true.1 hall t hm)⟩)
  (by kernel_rfl)
theorem proved : Rows.FnFramesCardSaid := card
end Go.Proofs.YtangabikonhepaaGreatDoor.fnFrames
