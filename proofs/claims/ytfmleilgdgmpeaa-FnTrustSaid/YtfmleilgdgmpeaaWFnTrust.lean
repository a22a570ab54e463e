/- The law FnTrust answers true for every input, whatever it is, and leaves its arguments as they were. Conditions: none. -/
import Derived.Test.YtfmleilgdgmpeaaQFnTrust
import Derived.Test.YtfmleilgdgmpeaaRows
import Derived.Test.YtfmleilgdgmpeaaL5
import Derived.Test.YtfmleilgdgmpeaaLD
import Derived.Carry
import Derived.Deep.RegionHeld3
import Derived.Deep.RegionLaw
import Derived.Shelf.RegionOpenPlain
import Derived.Shelf.Spec.SlicesInsert
import Derived.Test.YtfmleilgdgmpeaaL8
import Derived.Test.YtfmleilgdgmpeaaShelf
import Derived.WalkKit
import Derived.ProofKit
import Derived.OpenShut
import Derived.JoinedOf
import Derived.Handed
set_option linter.unusedVariables false
set_option maxRecDepth 100000
namespace Go.Proofs.Ytfmleilgdgmpeaa.fnTrust
open Go.Ab Go.Ab.P
open Go.ChangeShapes Go.WideShapes Go.ChangeAt Go.RowKit
def phiL : List (Nat × Nat) := [(76,4),(441,18),(847,43),(463,32),(642,30),(557,45),(806,37),(445,31),(807,38),(633,19),(235,5),(22,50),(21,29),(24,46),(23,33),(809,39),(635,20),(823,40),(861,41),(520,21),(634,22),(234,6),(638,23),(641,28),(636,24),(637,25),(233,7),(230,8),(232,9),(176,10),(11,62),(12,63),(13,49),(1,44),(645,35),(912,42),(640,26),(639,27),(231,11),(229,12),(228,13),(227,14),(643,34),(226,15),(225,16),(644,36),(224,17),(1272,3)]
def phi (n : Nat) : Nat := (phiL.lookup n).getD 1000000
theorem hm : Try.prog.follows .mixedOrders = true := by kernel_rfl
theorem ok_laws_b10Long : FOk Try.prog phi 76 laws_b10Long_c := fn_ok hm (D := laws_b10Long_D) DOk.nil (by kernel_rfl) _ _ _ _
theorem ok_spec_l00From : FOk Try.prog phi 441 spec_l00From_c := fn_ok hm (D := spec_l00From_D) DOk.nil (by kernel_rfl) _ _ _ _
theorem ok_spec_l00Src_next : FOk Try.prog phi 847 spec_l00Src_next_c := fn_ok hm (D := spec_l00Src_next_D) DOk.nil (by kernel_rfl) _ _ _ _
theorem ok_spec_l00Src_pick : FOk Try.prog phi 463 spec_l00Src_pick_c := fn_ok hm (D := spec_l00Src_pick_D) (DOk.cons ok_spec_l00Src_next DOk.nil) (by kernel_rfl) _ _ _ _
theorem ok_spec_l00Src_one : FOk Try.prog phi 642 spec_l00Src_one_c := fn_ok hm (D := spec_l00Src_one_D) (DOk.cons ok_spec_l00Src_pick DOk.nil) (by kernel_rfl) _ _ _ _
theorem ok_spec_l00Src_text : FOk Try.prog phi 557 spec_l00Src_text_c := fn_ok hm (D := spec_l00Src_text_D) (DOk.cons ok_spec_l00Src_pick DOk.nil) (by kernel_rfl) _ _ _ _
theorem ok_spec_l20DrawOne : FOk Try.prog phi 806 spec_l20DrawOne_c := fn_ok hm (D := spec_l20DrawOne_D) (DOk.cons ok_spec_l00Src_pick (DOk.cons ok_spec_l00Src_text DOk.nil)) (by kernel_rfl) _ _ _ _
theorem ok_spec_l00Src_among : FOk Try.prog phi 445 spec_l00Src_among_c := fn_ok hm (D := spec_l00Src_among_D) (DOk.cons ok_spec_l00Src_pick DOk.nil) (by kernel_rfl) _ _ _ _
theorem ok_spec_l20Bent : FOk Try.prog phi 807 spec_l20Bent_c := fn_ok hm (D := spec_l20Bent_D) (DOk.cons ok_spec_l00Src_among (DOk.cons ok_spec_l00Src_pick DOk.nil)) (by kernel_rfl) _ _ _ _
theorem ok_spec_l20Draw : FOk Try.prog phi 633 spec_l20Draw_c := fn_ok hm (D := spec_l20Draw_D) (DOk.cons ok_spec_l00Src_among (DOk.cons ok_spec_l00Src_pick (DOk.cons ok_spec_l00Src_one (DOk.cons ok_spec_l20DrawOne (DOk.cons ok_spec_l20Bent DOk.nil))))) (by kernel_rfl) _ _ _ _
theorem ok_spec_DrawTrustBy : FOk Try.prog phi 235 spec_DrawTrustBy_c := fn_ok hm (D := spec_DrawTrustBy_D) (DOk.cons ok_spec_l00From (DOk.cons ok_spec_l20Draw DOk.nil)) (by kernel_rfl) _ _ _ _
theorem ok_impl_isDigit : FOk Try.prog phi 22 impl_isDigit_c := fn_ok hm (D := impl_isDigit_D) DOk.nil (by kernel_rfl) _ _ _ _
theorem ok_impl_few : FOk Try.prog phi 21 impl_few_c := fn_ok hm (D := impl_few_D) DOk.nil (by kernel_rfl) _ _ _ _
theorem ok_impl_IsName : FOk Try.prog phi 24 impl_IsName_c := fn_ok hm (D := impl_IsName_D) (DOk.cons ok_impl_few (DOk.cons ok_impl_isDigit DOk.nil)) (by kernel_rfl) _ _ _ _
theorem ok_impl_within : FOk Try.prog phi 23 impl_within_c := fn_ok hm (D := impl_within_D) DOk.nil (by kernel_rfl) _ _ _ _
theorem ok_impl_Paper_valid : FOk Try.prog phi 809 impl_Paper_valid_c := fn_ok hm (D := impl_Paper_valid_D) (DOk.cons ok_impl_within (DOk.cons ok_impl_IsName DOk.nil)) (by kernel_rfl) _ _ _ _
theorem ok_impl_ValidPapers : FOk Try.prog phi 635 impl_ValidPapers_c := fn_ok hm (D := impl_ValidPapers_D) (DOk.cons ok_impl_few (DOk.cons ok_impl_Paper_valid DOk.nil)) (by kernel_rfl) _ _ _ _
theorem ok_slices_Sort___string_string_ : FOk Try.prog phi 823 slices_Sort___string_string__c := sortS_ok Try.lays190 (by kernel_rfl)
theorem ok_slices_Compact___string_string_ : FOk Try.prog phi 861 slices_Compact___string_string__c := compactS_ok Try.lays194 (by kernel_rfl)
theorem ok_impl_sortedSet : FOk Try.prog phi 520 impl_sortedSet_c := fn_ok hm (D := impl_sortedSet_D) (DOk.cons ok_slices_Sort___string_string_ (DOk.cons ok_slices_Compact___string_string_ DOk.nil)) (by kernel_rfl) _ _ _ _
theorem ok_slices_Index___string_string_ : FOk Try.prog phi 634 slices_Index___string_string__c := fn_ok hm (D := slices_Index___string_string__D) DOk.nil (by kernel_rfl) _ _ _ _
theorem ok_impl_TrustBy : FOk Try.prog phi 234 impl_TrustBy_c := fn_ok hm (D := impl_TrustBy_D) (DOk.cons ok_impl_sortedSet (DOk.cons ok_slices_Index___string_string_ (DOk.cons ok_impl_ValidPapers DOk.nil))) (by kernel_rfl) _ _ _ _
theorem ok_impl_clone_impl_Paper_ : FOk Try.prog phi 638 impl_clone_impl_Paper__c := fn_ok hm (D := impl_clone_impl_Paper__D) DOk.nil (by kernel_rfl) _ _ _ _
theorem ok_impl_clash : FOk Try.prog phi 641 impl_clash_c := fn_ok hm (D := impl_clash_D) DOk.nil (by kernel_rfl) _ _ _ _
theorem ok_impl_worst : FOk Try.prog phi 636 impl_worst_c := fn_ok hm (D := impl_worst_D) (DOk.cons ok_impl_clash DOk.nil) (by kernel_rfl) _ _ _ _
section
open Go.Shelf Go.Proofs Go.Lib
theorem del25_info : (Try.prog.info? 35).map (fun i => (i.zero,i.size,i.bytes)) = some (some (.agg #[.string ⟨#[]⟩,.string ⟨#[]⟩,.int .i64 0,.int .i64 0,.int .i64 0]),5,56) := by kernel_rfl
set_option maxHeartbeats 3200000 in
theorem del25_walk : DeleteWalk Try.prog 25 5 := ⟨⟨_,Try.func25,by decide +kernel,rfl⟩,by
 intro b o n c i j cs w hc0 hnc hij hjn hn hl hcs hr h1c
 obtain ⟨iE,hi,he⟩ := Option.map_eq_some_iff.1 del25_info
 simp only [Prod.mk.injEq] at he
 obtain ⟨hz0,hsz,hby⟩ := he
 have hbw : b < w.heap.size := hr.lt
 have hzv : ∀ w,(zeroValue 35).run Try.prog w = .ok (.agg #[.string ⟨#[]⟩,.string ⟨#[]⟩,.int .i64 0,.int .i64 0,.int .i64 0]) w := fun w => by simp [zeroValue,typeInfo,hi,hz0]
 have hcs0 : Cells w.drew b o cs := fun j v hj => hcs j v hj
 have hr0 : Room w.drew b (o + c * 5) := hr
 obtain ⟨news,hnews⟩ : ∃ news,news = cs.drop (j * 5) := ⟨_,rfl⟩
 have hlen : news.length = (n - j) * 5 := by rw [hnews,List.length_drop,hl]; omega
 obtain ⟨A,hA,hsrc⟩ : ∃ A : Addr,(if c = j then some (⟨b,o,none⟩ : Addr) else some ⟨b,o + j * 5,none⟩) = some A ∧ Hid (∀ t u,news[t]? = some u → w.drew.cell? (A.add t) = some u) := by
  by_cases h : c = j
  ·refine ⟨⟨b,o,none⟩,by simp [h],fun t u hu => ?_⟩
   have h0 : news.length = 0 := by rw [hlen]; omega
   rw [List.length_eq_zero_iff.1 h0] at hu
   simp at hu
  ·refine ⟨⟨b,o + j * 5,none⟩,by simp [h],fun t u hu => ?_⟩
   rw [hnews] at hu
   rw [World.cell?_add]
   exact (hcs0.drop (j * 5)) t u hu
 have s1 : Hid (news.length = (n - j) * 5) := hlen
 have s2 : Hid (∀ u ∈ news,u.oneCell' = true) := fun u hu => h1c u (by rw [hnews] at hu; exact List.mem_of_mem_drop hu)
 have s3 : Hid (∀ t,t < news.length → (w.drew.cell? ⟨b,o + i * 5 + t,none⟩).isSome = true ∧ w.drew.frozen? ⟨b,o + i * 5 + t,none⟩ = false) := fun t ht => by
  rw [hlen] at ht
  rw [Nat.add_assoc]
  exact hr0.cell (by omega)
 obtain ⟨W1,hW1⟩ : ∃ W1,W1 = w.drew.setCells b (o + i * 5) news := ⟨_,rfl⟩
 have hr1 : Room W1 b (o + c * 5) := by rw [hW1]; exact room_setCells _ _ _ hr0
 have hT1 : Turned b w W1 := by rw [hW1]; exact ((Turned.refl b w).drew).setCells (.inl rfl) _ _
 have hcl : ∀ ty,(Builtin.clear_ #[24] ty #[.slice (some ⟨b,o + (i + (n - j)) * 5,none⟩) (n - (i + (n - j))) (c - (i + (n - j)))]).run Try.prog W1 = .ok (.tuple #[]) (W1.setCells b (o + (i + (n - j)) * 5) (Builtin.zeroCells (Value.agg #[.string ⟨#[]⟩,.string ⟨#[]⟩,.int .i64 0,.int .i64 0,.int .i64 0]).cells (n - (i + (n - j)))).toList) :=
  fun ty => run_clear_cellsZ W1 _ _ ty _ 5 Try.underlying24 hzv rfl (by decide) b (o + (i + (n - j)) * 5) _ _ (by omega) (fun t ht => by rw [Nat.add_assoc]; exact (hr1.cell (by omega)).1) (fun t ht => by rw [Nat.add_assoc]; exact (hr1.cell (by omega)).2)
 have fin : Cells (W1.setCells b (o + (i + (n - j)) * 5) (Builtin.zeroCells (Value.agg #[.string ⟨#[]⟩,.string ⟨#[]⟩,.int .i64 0,.int .i64 0,.int .i64 0]).cells (n - (i + (n - j)))).toList) b o (cs.take (i * 5) ++ cs.drop (j * 5)) := by
  rw [hW1,hnews]
  exact del_place hij hjn hnc hl hcs0 hr0 (by rw [Array.length_toList,size_zeroCells]; show (n - (i + (n - j))) * 5 = _; congr 1; omega)
 have finT : Turned b w (W1.setCells b (o + (i + (n - j)) * 5) (Builtin.zeroCells (Value.agg #[.string ⟨#[]⟩,.string ⟨#[]⟩,.int .i64 0,.int .i64 0,.int .i64 0]).cells (n - (i + (n - j)))).toList) := hT1.setCells (.inl rfl) _ _
 have finR : Room (W1.setCells b (o + (i + (n - j)) * 5) (Builtin.zeroCells (Value.agg #[.string ⟨#[]⟩,.string ⟨#[]⟩,.int .i64 0,.int .i64 0,.int .i64 0]).cells (n - (i + (n - j)))).toList) b (o + c * 5) := room_setCells _ _ _ hr1
 have hW : Hid (W1 = w.drew.setCells b (o + i * 5) news) := hW1
 have hnij : ¬ ((i : Int) = (j : Int)) := by omega
 have hic : i ≤ c := by omega
 have hjc : j ≤ c := by omega
 have mixed : Try.prog.follows .mixedOrders = true := by kernel_rfl
 clear hW1 hcs0 hr0 hr1 hT1 hnews hlen hcs
 go_enter Try.func25,Try.ntmps25
 go_wp2_with (fail)
 go_region_law_o (refine step_append_room rfl (.tmp 22) (.tmp 25) 24 rfl 35 iE 5 Try.underlying24 hi hsz b o i c (by simp [Act.eval,Act.put]) A (n - j) (c - j) news (by simp [Act.eval,Act.put]) s1.out hsrc.out s2.out (by omega) s3.out ?_; rw [← hW.out])
 go_wp2
 go_ret
 exact ⟨by rw [show n - (j - i) = i + (n - j) by omega]; rfl,fin,finR,finT⟩⟩
end
theorem ok_slices_Delete___impl_Paper_impl_Paper_ : FOk Try.prog phi 637 slices_Delete___impl_Paper_impl_Paper__c := delete_ok (E := T_Paper) (by kernel_rfl) (by kernel_rfl) del25_walk (by kernel_rfl)
theorem ok_impl_DropClashes : FOk Try.prog phi 233 impl_DropClashes_c := fn_ok hm (D := impl_DropClashes_D) (DOk.cons ok_impl_ValidPapers (DOk.cons ok_impl_worst (DOk.cons ok_slices_Delete___impl_Paper_impl_Paper_ (DOk.cons ok_impl_clone_impl_Paper_ DOk.nil)))) (by kernel_rfl) _ _ _ _
theorem ok_impl_WorstPaper : FOk Try.prog phi 230 impl_WorstPaper_c := fn_ok hm (D := impl_WorstPaper_D) (DOk.cons ok_impl_ValidPapers (DOk.cons ok_impl_worst DOk.nil)) (by kernel_rfl) _ _ _ _
theorem ok_laws_b10Inside : FOk Try.prog phi 232 laws_b10Inside_c := fn_ok hm (D := laws_b10Inside_D) DOk.nil (by kernel_rfl) _ _ _ _
theorem ok_laws_b10Sum : FOk Try.prog phi 176 laws_b10Sum_c := fn_ok hm (D := laws_b10Sum_D) DOk.nil (by kernel_rfl) _ _ _ _
theorem ok_spec_l01Small : FOk Try.prog phi 11 spec_l01Small_c := fn_ok hm (D := spec_l01Small_D) DOk.nil (by kernel_rfl) _ _ _ _
theorem ok_spec_l01Digit : FOk Try.prog phi 12 spec_l01Digit_c := fn_ok hm (D := spec_l01Digit_D) DOk.nil (by kernel_rfl) _ _ _ _
theorem ok_spec_l01Name : FOk Try.prog phi 13 spec_l01Name_c := fn_ok hm (D := spec_l01Name_D) (DOk.cons ok_spec_l01Small (DOk.cons ok_spec_l01Digit DOk.nil)) (by kernel_rfl) _ _ _ _
theorem ok_spec_l00In : FOk Try.prog phi 1 spec_l00In_c := fn_ok hm (D := spec_l00In_D) DOk.nil (by kernel_rfl) _ _ _ _
theorem ok_spec_l20Year : FOk Try.prog phi 645 spec_l20Year_c := fn_ok hm (D := spec_l20Year_D) (DOk.cons ok_spec_l00In DOk.nil) (by kernel_rfl) _ _ _ _
theorem ok_spec_l20One : FOk Try.prog phi 912 spec_l20One_c := fn_ok hm (D := spec_l20One_D) (DOk.cons ok_spec_l00In (DOk.cons ok_spec_l01Name (DOk.cons ok_spec_l20Year DOk.nil))) (by kernel_rfl) _ _ _ _
theorem ok_spec_l20Ok : FOk Try.prog phi 640 spec_l20Ok_c := fn_ok hm (D := spec_l20Ok_D) (DOk.cons ok_spec_l20One DOk.nil) (by kernel_rfl) _ _ _ _
theorem ok_spec_l20Clash : FOk Try.prog phi 639 spec_l20Clash_c := fn_ok hm (D := spec_l20Clash_D) DOk.nil (by kernel_rfl) _ _ _ _
theorem ok_spec_ClashPairs : FOk Try.prog phi 231 spec_ClashPairs_c := fn_ok hm (D := spec_ClashPairs_D) (DOk.cons ok_spec_l20Clash (DOk.cons ok_spec_l20Ok DOk.nil)) (by kernel_rfl) _ _ _ _
theorem ok_spec_ValidPapers : FOk Try.prog phi 229 spec_ValidPapers_c := fn_ok hm (D := spec_ValidPapers_D) (DOk.cons ok_spec_l20Ok DOk.nil) (by kernel_rfl) _ _ _ _
theorem ok_impl_ClashPairs : FOk Try.prog phi 228 impl_ClashPairs_c := fn_ok hm (D := impl_ClashPairs_D) (DOk.cons ok_impl_few (DOk.cons ok_impl_ValidPapers (DOk.cons ok_impl_clash DOk.nil))) (by kernel_rfl) _ _ _ _
theorem ok_spec_DrawYearTrust : FOk Try.prog phi 227 spec_DrawYearTrust_c := fn_ok hm (D := spec_DrawYearTrust_D) (DOk.cons ok_spec_l00From (DOk.cons ok_spec_l00Src_among (DOk.cons ok_spec_l00Src_pick (DOk.cons ok_spec_l20Draw (DOk.cons ok_spec_l00Src_one DOk.nil))))) (by kernel_rfl) _ _ _ _
theorem ok_impl_yearTrust : FOk Try.prog phi 643 impl_yearTrust_c := fn_ok hm (D := impl_yearTrust_D) (DOk.cons ok_impl_within DOk.nil) (by kernel_rfl) _ _ _ _
theorem ok_impl_YearTrust : FOk Try.prog phi 226 impl_YearTrust_c := fn_ok hm (D := impl_YearTrust_D) (DOk.cons ok_impl_within (DOk.cons ok_impl_ValidPapers (DOk.cons ok_impl_yearTrust DOk.nil))) (by kernel_rfl) _ _ _ _
theorem ok_impl_BestYear : FOk Try.prog phi 225 impl_BestYear_c := fn_ok hm (D := impl_BestYear_D) (DOk.cons ok_impl_ValidPapers (DOk.cons ok_impl_yearTrust DOk.nil)) (by kernel_rfl) _ _ _ _
theorem ok_spec_l20Trust : FOk Try.prog phi 644 spec_l20Trust_c := fn_ok hm (D := spec_l20Trust_D) DOk.nil (by kernel_rfl) _ _ _ _
theorem ok_spec_YearTrust : FOk Try.prog phi 224 spec_YearTrust_c := fn_ok hm (D := spec_YearTrust_D) (DOk.cons ok_spec_l20Ok (DOk.cons ok_spec_l20Trust (DOk.cons ok_spec_l20Year DOk.nil))) (by kernel_rfl) _ _ _ _
theorem ok_laws_FnTrust : FOk Try.prog phi 1272 laws_FnTrust_c := fn_ok hm (D := laws_FnTrust_D) (DOk.cons ok_laws_b10Long (DOk.cons ok_laws_b10Sum (DOk.cons ok_spec_YearTrust (DOk.cons ok_impl_BestYear (DOk.cons ok_impl_YearTrust (DOk.cons ok_spec_DrawYearTrust (DOk.cons ok_impl_ClashPairs (DOk.cons ok_spec_ValidPapers (DOk.cons ok_impl_WorstPaper (DOk.cons ok_spec_ClashPairs (DOk.cons ok_laws_b10Inside (DOk.cons ok_impl_DropClashes (DOk.cons ok_impl_TrustBy (DOk.cons ok_spec_DrawTrustBy DOk.nil)))))))))))))) (by kernel_rfl) _ _ _ _
theorem law : ∀ x,wfU laws_FnTrust_c.ps x → ∃ y,laws_FnTrust_c.f x = some y ∧ resA laws_FnTrust_c y = ([A.bool true],[]) := fun x hx => ⟨true,(laws_FnTrust_true x.1 x.2.1 hx.1 hx.2.1),rfl⟩
theorem own : ownKnob Try.prog.godebug = none := by kernel_rfl
theorem laid : laidOutB Try.prog = true := by kernel_rfl
theorem reads : ∀ t ∈ Try.f3.params.toList,Try.prog.readableRec t = true ∧ t < Try.prog.types.size := by
 have h : (Try.f3.params.toList.all fun t => Try.prog.readableRec t && decide (t < Try.prog.types.size)) = true := by kernel_rfl
 intro t ht
 have := List.all_eq_true.1 h t ht
 simpa only [Bool.and_eq_true,decide_eq_true_eq] using this
theorem spec_eq (H : Type) : ∀ (ds : List (DataW H)),ds.length = Try.f3.params.toList.length → Rows.fnTrustSpec.fn H ds = { results := [.lit (.bool true)],args := ds } := by
 intro ds hd
 have hd : ds.length = 2 := hd
 match ds,hd with
 | [d0,d1],_ => rfl
theorem tab (W : World) : ∀ i,Try.prog.globalNamed pow10Name = some i → Lib.TabIs Try.prog W pow10Name .u64 Lib.pow10Tab := by
 intro i hi
 have h : Try.prog.globalNamed pow10Name = none := by kernel_rfl
 rw [h] at hi; cases hi
theorem errs (W : World) : ∀ n,errNames.contains n = true → ∀ i,Try.prog.globalNamed n = some i → ∃ u v,W.var? Try.prog n = some #[.iface u v] := by
 intro n hn i hi
 have hn : n = "strconv.ErrSyntax" ∨ n = "strconv.ErrRange" := by simpa [errNames] using hn
 rcases hn with rfl | rfl
 ·have h : Try.prog.globalNamed "strconv.ErrSyntax" = none := by kernel_rfl
  rw [h] at hi; cases hi
 ·have h : Try.prog.globalNamed "strconv.ErrRange" = none := by kernel_rfl
  rw [h] at hi; cases hi
theorem contract (H : Type) (enc : TypeId × Value → H) (W : World) (base : Nat) (args : Array Value) (ds gs : List (DataW H)) (before : List MemPlace)
 (hval : ∀ (j : Nat) t v,Try.f3.params[j]? = some t → args[j]? = some v → Value.okWide Try.prog W .any base t v)
 (hW : DataW.Whole enc Try.prog Try.f3.params.toList Rows.fnTrustSpec.vars false W args.toList ds gs before) (hsh : W.ShapedOpen Try.prog) :
 Calls Try.prog 3 args W fun e W' => ∃ v,e = .returned v ∧ Rows.fnTrustSpec.post enc Try.prog Try.f3 false true false false W args v W' :=
 row_contract (φ := phi) (g := 1272) (n := 20) ok_laws_FnTrust rfl rfl (tb := 4) Try.underlying4 (by kernel_rfl) rfl law laid reads spec_eq W base args ds gs before hval hW (Glob.start hsh (tab W) (errs W))
theorem lifted (os : Os) (started : os.Started) (H : Type) (enc : TypeId × Value → H) :
 ReturnsInHanded {} Try.checked os 3 .any (Rows.fnTrustSpec.pre6 enc Try.prog Try.f3 Rows.fnTrustRow.domain false) (Rows.fnTrustSpec.post enc Try.prog Try.f3 false true false false) := by
 refine returnsInHanded_of_change_shaped (C := Try.checked) own started (by kernel_rfl) Try.func3
  (ChangeSpec.witness6 (enc := enc) (C := Try.checked) false ⟨#[],#[.slice none 0 0,.slice none 0 0],[]⟩ 12 (by kernel_rfl) (by kernel_rfl) (by kernel_rfl) (by kernel_rfl)) ?_
 intro W base args ds gs before hval hW _ _ hsh _
 exact contract H enc W base args ds gs before hval hW hsh
theorem over : Rows.fnTrustRow.holds Try.pinned (OpenSpec.ofChange Rows.fnTrustSpec) :=
 OpenClaim.holds_of_wide 3 Try.f3 rfl rfl rfl rfl rfl rfl rfl ⟨rfl,rfl,rfl,rfl,rfl⟩ rfl rfl rfl rfl rfl (by kernel_rfl) Try.func3 (by kernel_rfl)
  (of_decide_eq_true (by kernel_rfl)) (by unfold Func.isWrapper; first | (rw [if_pos (by decide +kernel)]; kernel_rfl) | (rw [if_neg (by decide +kernel)]; exact ⟨rfl,rfl⟩))
  (fun os started H enc _ => lifted os started H enc)
theorem proved : Rows.FnTrustSaid := over
end Go.Proofs.Ytfmleilgdgmpeaa.fnTrust
