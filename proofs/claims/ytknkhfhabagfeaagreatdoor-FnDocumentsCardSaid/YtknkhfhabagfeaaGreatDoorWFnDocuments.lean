/- The law FnDocuments answers true for every input, whatever it is, and leaves its arguments as they were. Conditions: none. -/
import Derived.Test.YtknkhfhabagfeaaGreatDoorQFnDocuments
import Derived.Test.YtknkhfhabagfeaaGreatDoorRows
import Derived.Test.YtknkhfhabagfeaaGreatDoorL5
import Derived.Test.YtknkhfhabagfeaaGreatDoorLD
import Derived.Carry
import Derived.Deep.RegionHeld3
import Derived.Deep.RegionLaw
import Derived.Shelf.RegionOpenPlain
import Derived.Shelf.Spec.SlicesInsert
import Derived.Test.YtknkhfhabagfeaaGreatDoorShelf
import Derived.Test.YtknkhfhabagfeaaGreatDoorCards
import Derived.Test.YtknkhfhabagfeaaGreatDoorTie
import Derived.LaidMore
import Derived.Lay
import Derived.SevenTiedAt
import Derived.Stop.Joined
import Derived.WalkKit
import Derived.ProofKit
import Derived.OpenShut
import Derived.JoinedOf
import Derived.Handed
set_option linter.unusedVariables false
set_option maxRecDepth 100000
namespace Go.Proofs.YtknkhfhabagfeaaGreatDoor.fnDocuments
open Go.Ab Go.Ab.P
open Go.ChangeShapes Go.WideShapes Go.ChangeAt Go.RowKit
def phiL : List (Nat × Nat) := [(76,4),(441,16),(847,54),(463,37),(642,36),(557,27),(806,29),(445,38),(807,28),(633,17),(469,18),(395,5),(22,58),(21,39),(24,48),(23,20),(809,30),(635,19),(624,40),(641,44),(980,43),(1264,55),(1265,42),(803,23),(979,41),(802,21),(394,6),(71,7),(4,22),(393,8),(11,65),(12,66),(13,56),(1,46),(645,57),(912,45),(640,24),(804,25),(639,47),(805,26),(392,9),(391,10),(390,11),(638,32),(808,31),(389,12),(864,74),(524,63),(630,64),(460,53),(459,35),(387,14),(683,51),(458,33),(522,52),(457,34),(388,13),(229,15),(1277,3)]
def phi (n : Nat) : Nat := (phiL.lookup n).getD 1000000
theorem hm : Tryz.prog.follows .mixedOrders = true := by kernel_rfl
theorem ok_laws_b10Long : FOk Tryz.prog phi 76 laws_b10Long_c := fn_ok hm (D := laws_b10Long_D) DOk.nil (by kernel_rfl) _ _ _ _
theorem ok_spec_l00From : FOk Tryz.prog phi 441 spec_l00From_c := fn_ok hm (D := spec_l00From_D) DOk.nil (by kernel_rfl) _ _ _ _
theorem ok_spec_l00Src_next : FOk Tryz.prog phi 847 spec_l00Src_next_c := fn_ok hm (D := spec_l00Src_next_D) DOk.nil (by kernel_rfl) _ _ _ _
theorem ok_spec_l00Src_pick : FOk Tryz.prog phi 463 spec_l00Src_pick_c := fn_ok hm (D := spec_l00Src_pick_D) (DOk.cons ok_spec_l00Src_next DOk.nil) (by kernel_rfl) _ _ _ _
theorem ok_spec_l00Src_one : FOk Tryz.prog phi 642 spec_l00Src_one_c := fn_ok hm (D := spec_l00Src_one_D) (DOk.cons ok_spec_l00Src_pick DOk.nil) (by kernel_rfl) _ _ _ _
theorem ok_spec_l00Src_text : FOk Tryz.prog phi 557 spec_l00Src_text_c := fn_ok hm (D := spec_l00Src_text_D) (DOk.cons ok_spec_l00Src_pick DOk.nil) (by kernel_rfl) _ _ _ _
theorem ok_spec_l20DrawOne : FOk Tryz.prog phi 806 spec_l20DrawOne_c := fn_ok hm (D := spec_l20DrawOne_D) (DOk.cons ok_spec_l00Src_pick (DOk.cons ok_spec_l00Src_text DOk.nil)) (by kernel_rfl) _ _ _ _
theorem ok_spec_l00Src_among : FOk Tryz.prog phi 445 spec_l00Src_among_c := fn_ok hm (D := spec_l00Src_among_D) (DOk.cons ok_spec_l00Src_pick DOk.nil) (by kernel_rfl) _ _ _ _
theorem ok_spec_l20Bent : FOk Tryz.prog phi 807 spec_l20Bent_c := fn_ok hm (D := spec_l20Bent_D) (DOk.cons ok_spec_l00Src_among (DOk.cons ok_spec_l00Src_pick DOk.nil)) (by kernel_rfl) _ _ _ _
theorem ok_spec_l20Draw : FOk Tryz.prog phi 633 spec_l20Draw_c := fn_ok hm (D := spec_l20Draw_D) (DOk.cons ok_spec_l00Src_among (DOk.cons ok_spec_l00Src_pick (DOk.cons ok_spec_l00Src_one (DOk.cons ok_spec_l20DrawOne (DOk.cons ok_spec_l20Bent DOk.nil))))) (by kernel_rfl) _ _ _ _
theorem ok_spec_l06DrawBudget : FOk Tryz.prog phi 469 spec_l06DrawBudget_c := fn_ok hm (D := spec_l06DrawBudget_D) (DOk.cons ok_spec_l00Src_among DOk.nil) (by kernel_rfl) _ _ _ _
theorem ok_spec_DrawMostTrusted : FOk Tryz.prog phi 395 spec_DrawMostTrusted_c := fn_ok hm (D := spec_DrawMostTrusted_D) (DOk.cons ok_spec_l00From (DOk.cons ok_spec_l06DrawBudget (DOk.cons ok_spec_l20Draw DOk.nil))) (by kernel_rfl) _ _ _ _
theorem ok_impl_isDigit : FOk Tryz.prog phi 22 impl_isDigit_c := fn_ok hm (D := impl_isDigit_D) DOk.nil (by kernel_rfl) _ _ _ _
theorem ok_impl_few : FOk Tryz.prog phi 21 impl_few_c := fn_ok hm (D := impl_few_D) DOk.nil (by kernel_rfl) _ _ _ _
theorem ok_impl_IsName : FOk Tryz.prog phi 24 impl_IsName_c := fn_ok hm (D := impl_IsName_D) (DOk.cons ok_impl_few (DOk.cons ok_impl_isDigit DOk.nil)) (by kernel_rfl) _ _ _ _
theorem ok_impl_within : FOk Tryz.prog phi 23 impl_within_c := fn_ok hm (D := impl_within_D) DOk.nil (by kernel_rfl) _ _ _ _
theorem ok_impl_Paper_valid : FOk Tryz.prog phi 809 impl_Paper_valid_c := fn_ok hm (D := impl_Paper_valid_D) (DOk.cons ok_impl_within (DOk.cons ok_impl_IsName DOk.nil)) (by kernel_rfl) _ _ _ _
theorem ok_impl_ValidPapers : FOk Tryz.prog phi 635 impl_ValidPapers_c := fn_ok hm (D := impl_ValidPapers_D) (DOk.cons ok_impl_few (DOk.cons ok_impl_Paper_valid DOk.nil)) (by kernel_rfl) _ _ _ _
theorem ok_impl_clone_int64_ : FOk Tryz.prog phi 624 impl_clone_int64__c := fn_ok hm (D := impl_clone_int64__D) DOk.nil (by kernel_rfl) _ _ _ _
theorem ok_impl_clash : FOk Tryz.prog phi 641 impl_clash_c := fn_ok hm (D := impl_clash_D) DOk.nil (by kernel_rfl) _ _ _ _
theorem ok_impl_clashesWith_1 : FOk Tryz.prog phi 980 impl_clashesWith_1_c := fn_ok hm (D := impl_clashesWith_1_D) (DOk.cons ok_impl_clash DOk.nil) (by kernel_rfl) _ _ _ _
theorem ok_slices_IndexFunc___int64_int64__impl_clashesWith_1 : FOk Tryz.prog phi 1264 slices_IndexFunc___int64_int64__impl_clashesWith_1_c := fn_ok hm (D := slices_IndexFunc___int64_int64__impl_clashesWith_1_D) (DOk.cons ok_impl_clashesWith_1 DOk.nil) (by kernel_rfl) _ _ _ _
theorem ok_slices_ContainsFunc___int64_int64__impl_clashesWith_1 : FOk Tryz.prog phi 1265 slices_ContainsFunc___int64_int64__impl_clashesWith_1_c := fn_ok hm (D := slices_ContainsFunc___int64_int64__impl_clashesWith_1_D) (DOk.cons ok_impl_clashesWith_1 (DOk.cons ok_slices_IndexFunc___int64_int64__impl_clashesWith_1 DOk.nil)) (by kernel_rfl) _ _ _ _
theorem ok_impl_clashesWith : FOk Tryz.prog phi 803 impl_clashesWith_c := fn_ok hm (D := impl_clashesWith_D) (DOk.cons ok_slices_ContainsFunc___int64_int64__impl_clashesWith_1 DOk.nil) (by kernel_rfl) _ _ _ _
theorem ok_impl_trusting_node : FOk Tryz.prog phi 979 impl_trusting_node_c := fn_ok hm (D := impl_trusting_node_D) DOk.nil (by kernel_rfl) _ _ _ _
theorem ck_impl_trusting_search : chkFn Tryz.prog phi 802 impl_trusting_search_ir = true := by kernel_rfl
theorem ok_impl_trusting_search_N : ∀ n,FOk Tryz.prog phi 802 (impl_trusting_search_N n)
 | 0 => FOk.none (fn_ok hm (D := []) DOk.nil ck_impl_trusting_search [] [] [] []).1
 | n + 1 => by rw [impl_trusting_search_N_eq]; exact fn_ok hm (D := impl_trusting_search_D n) (DOk.cons ok_impl_clone_int64_ (DOk.cons (ok_impl_trusting_search_N n) (DOk.cons ok_impl_clashesWith (DOk.cons ok_impl_trusting_node DOk.nil)))) ck_impl_trusting_search _ _ _ _
theorem ok_impl_trusting_search : FOk Tryz.prog phi 802 impl_trusting_search_c := ok_impl_trusting_search_N 1000
theorem ok_impl_MostTrusted : FOk Tryz.prog phi 394 impl_MostTrusted_c := fn_ok hm (D := impl_MostTrusted_D) (DOk.cons ok_impl_within (DOk.cons ok_impl_ValidPapers (DOk.cons ok_impl_trusting_search DOk.nil))) (by kernel_rfl) _ _ _ _
theorem ok_laws_b10Rises : FOk Tryz.prog phi 71 laws_b10Rises_c := fn_ok hm (D := laws_b10Rises_D) DOk.nil (by kernel_rfl) _ _ _ _
theorem ok_impl_at : FOk Tryz.prog phi 4 impl_at_c := fn_ok hm (D := impl_at_D) DOk.nil (by kernel_rfl) _ _ _ _
theorem ok_impl_Agrees : FOk Tryz.prog phi 393 impl_Agrees_c := fn_ok hm (D := impl_Agrees_D) (DOk.cons ok_impl_at (DOk.cons ok_impl_ValidPapers (DOk.cons ok_impl_clashesWith DOk.nil))) (by kernel_rfl) _ _ _ _
theorem ok_spec_l01Small : FOk Tryz.prog phi 11 spec_l01Small_c := fn_ok hm (D := spec_l01Small_D) DOk.nil (by kernel_rfl) _ _ _ _
theorem ok_spec_l01Digit : FOk Tryz.prog phi 12 spec_l01Digit_c := fn_ok hm (D := spec_l01Digit_D) DOk.nil (by kernel_rfl) _ _ _ _
theorem ok_spec_l01Name : FOk Tryz.prog phi 13 spec_l01Name_c := fn_ok hm (D := spec_l01Name_D) (DOk.cons ok_spec_l01Small (DOk.cons ok_spec_l01Digit DOk.nil)) (by kernel_rfl) _ _ _ _
theorem ok_spec_l00In : FOk Tryz.prog phi 1 spec_l00In_c := fn_ok hm (D := spec_l00In_D) DOk.nil (by kernel_rfl) _ _ _ _
theorem ok_spec_l20Year : FOk Tryz.prog phi 645 spec_l20Year_c := fn_ok hm (D := spec_l20Year_D) (DOk.cons ok_spec_l00In DOk.nil) (by kernel_rfl) _ _ _ _
theorem ok_spec_l20One : FOk Tryz.prog phi 912 spec_l20One_c := fn_ok hm (D := spec_l20One_D) (DOk.cons ok_spec_l00In (DOk.cons ok_spec_l01Name (DOk.cons ok_spec_l20Year DOk.nil))) (by kernel_rfl) _ _ _ _
theorem ok_spec_l20Ok : FOk Tryz.prog phi 640 spec_l20Ok_c := fn_ok hm (D := spec_l20Ok_D) (DOk.cons ok_spec_l20One DOk.nil) (by kernel_rfl) _ _ _ _
theorem ok_spec_l00Rises : FOk Tryz.prog phi 804 spec_l00Rises_c := fn_ok hm (D := spec_l00Rises_D) (DOk.cons ok_spec_l00In DOk.nil) (by kernel_rfl) _ _ _ _
theorem ok_spec_l20Clash : FOk Tryz.prog phi 639 spec_l20Clash_c := fn_ok hm (D := spec_l20Clash_D) DOk.nil (by kernel_rfl) _ _ _ _
theorem ok_spec_l20Agrees : FOk Tryz.prog phi 805 spec_l20Agrees_c := fn_ok hm (D := spec_l20Agrees_D) (DOk.cons ok_spec_l20Clash DOk.nil) (by kernel_rfl) _ _ _ _
theorem ok_spec_Agrees : FOk Tryz.prog phi 392 spec_Agrees_c := fn_ok hm (D := spec_Agrees_D) (DOk.cons ok_spec_l20Ok (DOk.cons ok_spec_l00Rises (DOk.cons ok_spec_l20Agrees DOk.nil))) (by kernel_rfl) _ _ _ _
theorem ok_impl_SpanOf : FOk Tryz.prog phi 391 impl_SpanOf_c := fn_ok hm (D := impl_SpanOf_D) (DOk.cons ok_impl_Agrees (DOk.cons ok_impl_ValidPapers DOk.nil)) (by kernel_rfl) _ _ _ _
theorem ok_spec_DrawAddPaper : FOk Tryz.prog phi 390 spec_DrawAddPaper_c := fn_ok hm (D := spec_DrawAddPaper_D) (DOk.cons ok_spec_l00From (DOk.cons ok_spec_l00Src_text (DOk.cons ok_spec_l20Draw (DOk.cons ok_spec_l20DrawOne (DOk.cons ok_spec_l20Bent DOk.nil))))) (by kernel_rfl) _ _ _ _
theorem ok_impl_clone_impl_Paper_ : FOk Tryz.prog phi 638 impl_clone_impl_Paper__c := fn_ok hm (D := impl_clone_impl_Paper__D) DOk.nil (by kernel_rfl) _ _ _ _
section
open Go.Shelf Go.Proofs
theorem ins31_info : (Tryz.prog.info? 33).map (fun i => (i.zero,i.size,i.bytes)) = some (some (.agg #[.string ⟨#[]⟩,.string ⟨#[]⟩,.int .i64 0,.int .i64 0,.int .i64 0]),5,56) := by kernel_rfl
set_option maxHeartbeats 3200000 in
theorem ins31_walk : InsertWalk Tryz.prog 31 5 := ⟨⟨_,Tryz.func31,by decide +kernel,rfl⟩,by
 intro ad va vo vc xs w hx hc h1 hva
 obtain ⟨i,hi,he⟩ := Option.map_eq_some_iff.1 ins31_info
 simp only [Prod.mk.injEq] at he
 obtain ⟨hz0,hsz,hby⟩ := he
 obtain ⟨cp,w1,hrun,q1,q2,q3,q4,q5⟩ := ins_nil (vc := vc) (ad := ad) Tryz.underlying24 hi hsz hz0 rfl (by rw [hby]; decide) hx hc h1 24
 go_enter Tryz.func31,Tryz.ntmps31
 go_wp2_with (first | (at_builtin; refine Go.Lib.wpList_append_run _ rfl _ _ _ _ rfl _ _ rfl rfl _ _ hrun ?_) | fail)
 go_ret
 exact ⟨_,cp,rfl,q1,Nat.le_refl _,q2,q3,q4,q5⟩,by
 intro b o n c i va vo vc cs xs w hc0 hnc hin hn hl hcs hr hx hc hne h1c h1 hva hsh
 obtain ⟨iE,hi,he⟩ := Option.map_eq_some_iff.1 ins31_info
 simp only [Prod.mk.injEq] at he
 obtain ⟨hz0,hsz,hby⟩ := he
 have hbw : b < w.heap.size := hr.lt
 rcases Nat.lt_or_ge i n with hlt | hge
 ·have hI : ¬ ((i : Int) = (n : Int)) := by omega
  have hszm : (Tryz.prog.info? 33).map (·.size) = some 5 := by rw [hi]; simp [hsz]
  have hzE : ∀ w,(Go.sizeOf 33).run Tryz.prog w = .ok 5 w := fun w => by simp [Go.sizeOf,typeInfo,hi,hsz]
  have hdl : (cs.drop (i * 5)).length = (n - i) * 5 := by rw [List.length_drop,hl]; omega
  have h1d : ∀ v ∈ cs.drop (i * 5),v.oneCell' = true := fun v hv => h1c v (List.mem_of_mem_drop hv)
  have hb1 : (0 : Int) ≤ (i : Int) + 1 := by omega
  have htn : ((i : Int) + 1).toNat = i + 1 := by omega
  by_cases hroom : n + 1 ≤ c
  ·obtain ⟨tA,kA,hsa,hkA⟩ := hsh
   obtain ⟨C,eC,frC,g1,g2,g3⟩ := id hr
   have hsb : w.shape? b = some (eC,C.size) := by simp [World.shape?,g1]
   have hov : ∀ lb cb,(callFunc 49 #[.slice (some ⟨va,vo,none⟩) 1 vc,.slice (some ⟨b,o + (i + 1) * 5,none⟩) lb cb]).run Tryz.prog w = .ok (.value (.bool false)) w := fun lb cb => by
    rw [run_callFunc_extern Tryz.func49 (by kernel_rfl) (by kernel_rfl) (by kernel_rfl) (e := Extern.SlicesOverlaps.overlaps #[24,24] #[4]) (by kernel_rfl),
     Go.Lib.run_overlaps_own w 24 4 33 Tryz.underlying24 5 hzE ⟨va,vo,none⟩ ⟨b,o + (i + 1) * 5,none⟩ 1 vc lb cb hne tA eC kA C.size hsa hsb hkA (g3 _ (.inl (by omega))) (g3 _ (.inr ⟨rfl,by decide⟩))]
    rfl
   have hcs0 : Cells w.drew b o cs := fun j v hj => hcs j v hj
   have hr0 : Room 5 w.drew b (o + c * 5) := hr
   have hcp1 : ∀ ty dc sc,(Builtin.copy_ #[24,24] ty #[.slice (some ⟨b,o + (i + 1) * 5,none⟩) (n - i) dc,.slice (some ⟨b,o + i * 5,none⟩) (n + 1 - i) sc]).run Tryz.prog w.drew = .ok (goInt ((n - i : Nat) : Int)) (w.drew.setCells b (o + (i + 1) * 5) (cs.drop (i * 5))) := fun ty dc sc =>
    run_copy_cellsZ w.drew _ _ ty 33 b (o + (i + 1) * 5) (n - i) dc ⟨b,o + i * 5,none⟩ (n + 1 - i) sc (cs.drop (i * 5)) 5 (n - i) Tryz.underlying24 hszm (by simp only [Nat.min_def]; split <;> omega) hdl
     (fun j v hj => by
       rw [World.cell?_add]
       exact (hcs0.drop (i * 5)) j v hj) (fun j hj => (hr0.cell (by omega)).1) (fun j hj => (hr0.cell (by omega)).2) h1d
   obtain ⟨W1,hW1⟩ : ∃ W1,W1 = w.drew.setCells b (o + (i + 1) * 5) (cs.drop (i * 5)) := ⟨_,rfl⟩
   have hT1 : Turned b w W1 := by rw [hW1]; exact ((Turned.refl b w).drew).setCells (.inl rfl) _ _
   have hr1 : Room 5 W1 b (o + c * 5) := by rw [hW1]; exact room_setCells _ _ _ hr0
   have hx1 : Cells W1 va vo xs := hc.of_block (hT1.block va hva hne)
   have hcp2 : ∀ ty dc,(Builtin.copy_ #[24,24] ty #[.slice (some ⟨b,o + i * 5,none⟩) (n + 1 - i) dc,.slice (some ⟨va,vo,none⟩) 1 vc]).run Tryz.prog W1 = .ok (goInt 1) (W1.setCells b (o + i * 5) xs) := fun ty dc =>
    run_copy_cellsZ W1 _ _ ty 33 b (o + i * 5) (n + 1 - i) dc ⟨va,vo,none⟩ 1 vc xs 5 1 Tryz.underlying24 hszm (by simp only [Nat.min_def]; split <;> omega) (by omega)
     (fun j v hj => by rw [World.cell?_add]; exact hx1 j v hj) (fun j hj => (hr1.cell (by omega)).1) (fun j hj => (hr1.cell (by omega)).2) h1
   have fin : Cells (W1.setCells b (o + i * 5) xs) b o (cs.take (i * 5) ++ xs ++ cs.drop (i * 5)) := by
    rw [hW1]
    exact ins_place hlt hroom hl hcs0 hr0 hx
   have finT : Turned b w (W1.setCells b (o + i * 5) xs) := hT1.setCells (.inl rfl) _ _
   have finR : Room 5 (W1.setCells b (o + i * 5) xs) b (o + c * 5) := room_setCells _ _ _ hr1
   have hngt : ¬ ((n : Int) + 1 > (c : Int)) := by omega
   have hci : ¬ (c = i) := by omega
   have hci1 : ¬ (c = i + 1) := by omega
   have hb3 : (i : Int) ≤ (n : Int) + 1 := by omega
   have hw1 : IntKind.i64.wrap ((i : Int) + 1) = (i : Int) + 1 := by rw [IntKind.wrap_i64]; omega
   have mixed : Tryz.prog.follows .mixedOrders = true := by kernel_rfl
   clear hcs0 hr0 hr1 hx1 hT1 g1 g2 g3 hsb hsa
   subst hW1
   go_enter Tryz.func31,Tryz.ntmps31
   go_wp2_with (simp only [hov])
   go_region_law_o (refine step_copy_runI rfl _ _ 24 24 rfl _ _ (by simp [Act.eval,Act.put]) (by simp [Act.eval,Act.put]) (hcp1 _ _ _) ?_)
   go_wp2_with (at_builtin; refine wpList_copy_runI _ rfl _ _ 24 24 rfl _ _ rfl rfl (hcp2 _ _) ?_)
   go_ret
   exact ⟨b,o,c,rfl,hroom,.inl rfl,fin,finR,finT⟩
  ·have hgt : (n : Int) + 1 > (c : Int) := by omega
   have hzc : ∀ k,(Builtin.zeroCells (Value.agg #[.string ⟨#[]⟩,.string ⟨#[]⟩,.int .i64 0,.int .i64 0,.int .i64 0]).cells k).size = k * 5 := fun k => by rw [size_zeroCells]; rfl
   have hold : (Builtin.firstCells iE.size i (.slice (some ⟨b,o,none⟩) i c)).run Tryz.prog w.drew = .ok (cs.take (i * 5)).toArray w.drew := by
    rw [hsz]
    exact run_firstCells_some w.drew 5 i ⟨b,o,none⟩ i c (cs.take (i * 5)) (by rw [List.length_take]; omega) (fun j v hj => by
     rw [World.cell?_add]
     exact (hcs.take (i * 5)) j v hj)
   have hik : i + (n + 1 - i) = n + 1 := by omega
   have hkk : (n : Int) + 1 - (i : Int) = ((n + 1 - i : Nat) : Int) := by omega
   have hrz := Go.Lib.run_append_grow_zeros w 24 3 24 33 iE _ .i64 .i64 Tryz.underlying24 Tryz.underlying3 hi hz0 (some ⟨b,o,none⟩) i c (cs.take (i * 5)) hold (n + 1 - i) (by omega) (by omega) (by omega) (by omega) (by rw [hby]; omega) (by rw [hby,hik]; exact growslice_fits (by omega) (by omega))
   rw [hik,← hkk] at hrz
   obtain ⟨G,hG⟩ : ∃ G,G = grownCap w (n + 1) c 33 := ⟨_,rfl⟩
   have hGn : n + 1 ≤ G := by rw [hG]; exact grownCap_ge w _ _ _
   rw [← hG] at hrz
   obtain ⟨ROW,hROW⟩ : ∃ ROW : Array Value,ROW = (cs.take (i * 5)).toArray ++ Builtin.zeroCells (Value.agg #[.string ⟨#[]⟩,.string ⟨#[]⟩,.int .i64 0,.int .i64 0,.int .i64 0]).cells (n + 1 - i) ++ Builtin.zeroCells (Value.agg #[.string ⟨#[]⟩,.string ⟨#[]⟩,.int .i64 0,.int .i64 0,.int .i64 0]).cells (G - (n + 1)) := ⟨_,rfl⟩
   rw [← hROW] at hrz
   have hRs : ROW.size = G * 5 := by
    rw [hROW,Array.size_append,Array.size_append,hzc,hzc,List.size_toArray,List.length_take]
    omega
   have hh : (w.drew.alloc (.cells ROW 33)).heap = w.heap.push (.cells ROW 33) := rfl
   have hcell0 : Cells (w.drew.alloc (.cells ROW 33)) w.heap.size 0 (cs.take (i * 5) ++ (Builtin.zeroCells (Value.agg #[.string ⟨#[]⟩,.string ⟨#[]⟩,.int .i64 0,.int .i64 0,.int .i64 0]).cells (n + 1 - i)).toList) := by
    have := cells_push hh
    have e : ROW.toList = (cs.take (i * 5) ++ (Builtin.zeroCells (Value.agg #[.string ⟨#[]⟩,.string ⟨#[]⟩,.int .i64 0,.int .i64 0,.int .i64 0]).cells (n + 1 - i)).toList) ++ (Builtin.zeroCells (Value.agg #[.string ⟨#[]⟩,.string ⟨#[]⟩,.int .i64 0,.int .i64 0,.int .i64 0]).cells (G - (n + 1))).toList := by rw [hROW]; simp
    rw [e] at this
    exact this.left
   have hroomN : Room 5 (w.drew.alloc (.cells ROW 33)) w.heap.size (G * 5) := by rw [← hRs]; exact room_push hh
   have hT : Turned b w (w.drew.alloc (.cells ROW 33)) := ((Turned.refl b w).drew).alloc _
   obtain ⟨W1,hW1⟩ : ∃ W1,W1 = w.drew.alloc (.cells ROW 33) := ⟨_,rfl⟩
   have hW1s : W1.heap.size = w.heap.size + 1 := by rw [hW1,hh]; simp
   rw [← hW1] at hrz hcell0 hroomN hT
   have hxW : Cells W1 va vo xs := hc.of_block (hT.block va hva hne)
   have hcW : Cells W1 b o cs := fun j v hj => by
    have : W1.heap[b]? = w.heap[b]? := by rw [hW1,hh,Array.getElem?_push_lt hbw,Array.getElem?_eq_getElem hbw]
    have h := hcs j v hj
    simp only [World.cell?,this] at h ⊢
    exact h
   have hcpA : ∀ ty dc,(Builtin.copy_ #[24,24] ty #[.slice (some ⟨w.heap.size,i * 5,none⟩) (n + 1 - i) dc,.slice (some ⟨va,vo,none⟩) 1 vc]).run Tryz.prog W1 = .ok (goInt 1) (W1.setCells w.heap.size (i * 5) xs) := fun ty dc =>
    run_copy_cellsZ W1 _ _ ty 33 w.heap.size (i * 5) (n + 1 - i) dc ⟨va,vo,none⟩ 1 vc xs 5 1 Tryz.underlying24 hszm (by simp only [Nat.min_def]; split <;> omega) (by omega)
     (fun j v hj => by rw [World.cell?_add]; exact hxW j v hj) (fun j hj => (hroomN.cell (by omega)).1) (fun j hj => (hroomN.cell (by omega)).2) h1
   obtain ⟨W2,hW2⟩ : ∃ W2,W2 = (W1.setCells w.heap.size (i * 5) xs).drew := ⟨_,rfl⟩
   have hT2 : Turned b w W2 := by rw [hW2]; exact (hT.setCells (.inr (Nat.le_refl _)) _ _).drew
   have hroom2 : Room 5 W2 w.heap.size (G * 5) := by rw [hW2]; exact room_setCells (b := w.heap.size) xs (i * 5) W1 hroomN
   have hcW2 : Cells W2 b o cs := by
    have : W2.heap[b]? = W1.heap[b]? := by rw [hW2]; exact setCells_block _ _ _ _ _ (by omega)
    exact hcW.of_block this
   have hcpB : ∀ ty dc sc,(Builtin.copy_ #[24,24] ty #[.slice (some ⟨w.heap.size,(i + 1) * 5,none⟩) (n + 1 - (i + 1)) dc,.slice (some ⟨b,o + i * 5,none⟩) (n - i) sc]).run Tryz.prog W2 = .ok (goInt ((n - i : Nat) : Int)) (W2.setCells w.heap.size ((i + 1) * 5) (cs.drop (i * 5))) := fun ty dc sc =>
    run_copy_cellsZ W2 _ _ ty 33 w.heap.size ((i + 1) * 5) (n + 1 - (i + 1)) dc ⟨b,o + i * 5,none⟩ (n - i) sc (cs.drop (i * 5)) 5 (n - i) Tryz.underlying24 hszm (by simp only [Nat.min_def]; split <;> omega) hdl
     (fun j v hj => by
       rw [World.cell?_add]
       have := (hcW2.drop (i * 5)) j v hj
       exact this) (fun j hj => (hroom2.cell (by omega)).1) (fun j hj => (hroom2.cell (by omega)).2) h1d
   have hGi : ¬ (G = i) := by omega
   have hGi1 : ¬ (G = i + 1) := by omega
   have hci : ¬ (c = i) := by omega
   have hb3 : (i : Int) ≤ (n : Int) := by omega
   have hw1 : IntKind.i64.wrap ((i : Int) + 1) = (i : Int) + 1 := by rw [IntKind.wrap_i64]; omega
   have fin : Cells (W2.setCells w.heap.size ((i + 1) * 5) (cs.drop (i * 5))) w.heap.size 0 (cs.take (i * 5) ++ xs ++ cs.drop (i * 5)) := by
    have := new_place (w := W1) hlt hl hx (by rw [Array.length_toList,hzc]) hcell0 hroomN (by omega)
    rw [hW2,← drew_setCells]
    intro j v hj
    exact this j v hj
   have finT : Turned b w (W2.setCells w.heap.size ((i + 1) * 5) (cs.drop (i * 5))) := hT2.setCells (.inr (Nat.le_refl _)) _ _
   have finR : Room 5 (W2.setCells w.heap.size ((i + 1) * 5) (cs.drop (i * 5))) w.heap.size (0 + G * 5) := by rw [Nat.zero_add]; exact room_setCells _ _ _ hroom2
   have finS : w.heap.size < (W2.setCells w.heap.size ((i + 1) * 5) (cs.drop (i * 5))).heap.size := by
    rw [setCells_size,hW2]
    show w.heap.size < (W1.setCells w.heap.size (i * 5) xs).heap.size
    rw [setCells_size,hW1s]; omega
   subst hW2
   clear hkk hik hold hROW hG hRs hW1 hh hcell0 hroomN hroom2 hcW hcW2 hxW hzc
   go_enter Tryz.func31,Tryz.ntmps31
   go_wp2_with (first
    | (at_builtin; refine Go.Lib.wpList_append_run _ rfl _ _ _ _ rfl _ _ rfl rfl _ _ hrz ?_)
    | (at_builtin; refine wpList_copy_runI _ rfl _ _ 24 24 rfl _ _ rfl rfl (hcpA _ _) ?_))
   have mixed : Tryz.prog.follows .mixedOrders = true := by kernel_rfl
   go_region_law_o (refine step_copy_runI rfl _ _ 24 24 rfl (.slice (some ⟨w.heap.size,(i + 1) * 5,none⟩) (n + 1 - (i + 1)) (G - (i + 1))) (.slice (some ⟨b,o + i * 5,none⟩) (n - i) (c - i)) (by simp [Act.eval,Act.put]) (by simp [Act.eval,Act.put]) (hcpB 3 (G - (i + 1)) (c - i)) ?_)
   go_wp2
   go_ret
   exact ⟨w.heap.size,0,G,rfl,hGn,.inr ⟨Nat.le_refl _,finS⟩,fin,finR,finT⟩
 ·obtain rfl : i = n := by omega
  obtain ⟨b',o',cp,w1,hrun,q1,q2,q3,q4,q5⟩ := ins_end (vc := vc) Tryz.underlying24 hi hsz hz0 rfl (by rw [hby]; decide) hnc hn hl hcs hr hx hc h1 24
  go_enter Tryz.func31,Tryz.ntmps31
  go_wp2_with (first | (at_builtin; refine Go.Lib.wpList_append_run _ rfl _ _ _ _ rfl _ _ rfl rfl _ _ hrun ?_) | fail)
  all_goals go_ret
  all_goals refine ⟨b',o',cp,rfl,q1,q2,?_,q4,q5⟩
  all_goals (rw [List.take_of_length_le (by omega),List.drop_eq_nil_of_le (by omega),List.append_nil]; exact q3)⟩
end
theorem ok_slices_Insert___impl_Paper_impl_Paper_ : FOk Tryz.prog phi 808 slices_Insert___impl_Paper_impl_Paper__c := insert_ok (E := T_Paper) (by kernel_rfl) (by kernel_rfl) (by decide) ins31_walk (by kernel_rfl)
theorem ok_impl_AddPaper : FOk Tryz.prog phi 389 impl_AddPaper_c := fn_ok hm (D := impl_AddPaper_D) (DOk.cons ok_impl_ValidPapers (DOk.cons ok_impl_clone_impl_Paper_ (DOk.cons ok_slices_Insert___impl_Paper_impl_Paper_ (DOk.cons ok_impl_Paper_valid DOk.nil)))) (by kernel_rfl) _ _ _ _
theorem ok_strconv_FormatInt : FOk Tryz.prog phi 864 strconv_FormatInt_c := formatInt_ok Tryz.laysM173 ⟨5,by kernel_rfl⟩ (by kernel_rfl)
theorem ok_impl_Decimal : FOk Tryz.prog phi 524 impl_Decimal_c := fn_ok hm (D := impl_Decimal_D) (DOk.cons ok_strconv_FormatInt DOk.nil) (by kernel_rfl) _ _ _ _
theorem ok_strings_Join : FOk Tryz.prog phi 630 strings_Join_c := join_ok Tryz.lays156 Tryz.Builder_Extra_156 (by kernel_rfl)
theorem ok_impl_ListText : FOk Tryz.prog phi 460 impl_ListText_c := fn_ok hm (D := impl_ListText_D) (DOk.cons ok_impl_few (DOk.cons ok_impl_within (DOk.cons ok_impl_Decimal (DOk.cons ok_strings_Join DOk.nil)))) (by kernel_rfl) _ _ _ _
theorem ok_impl_named : FOk Tryz.prog phi 459 impl_named_c := fn_ok hm (D := impl_named_D) (DOk.cons ok_impl_ListText DOk.nil) (by kernel_rfl) _ _ _ _
theorem ok_impl_PaperText : FOk Tryz.prog phi 387 impl_PaperText_c := fn_ok hm (D := impl_PaperText_D) (DOk.cons ok_impl_named (DOk.cons ok_impl_Paper_valid DOk.nil)) (by kernel_rfl) _ _ _ _
theorem ok_strings_Split : FOk Tryz.prog phi 683 strings_Split_c := split_ok Tryz.laysM146 (of_decide_eq_true (by kernel_rfl)) (by kernel_rfl)
theorem ok_impl_SplitWords : FOk Tryz.prog phi 458 impl_SplitWords_c := fn_ok hm (D := impl_SplitWords_D) (DOk.cons ok_strings_Split DOk.nil) (by kernel_rfl) _ _ _ _
section
open Go.Lib
theorem rd_long (s : ByteArray) (w : World) (hl : 18 < (Lib.trimPrefix s.data.toList [45]).length) :
 Calls Tryz.prog 52 #[.string s] w fun e w' => e = .returned (.tuple #[.int .i64 0,.bool false]) ∧ Below w.heap.size w w' := by
 go_enter Tryz.func52,Tryz.ntmps52
 go_wp2_with (go_at_call 61; refine (Tryz.strings_TrimPrefix _ _ _).mono ?_; rintro e w' ⟨rfl,rfl⟩)
 all_goals first
  | (exfalso; omega)
  | (go_ret2; exact ⟨rfl,Below.refl _ _⟩)
theorem rd_bad (s : ByteArray) (w : World) (hl : ¬ 18 < (Lib.trimPrefix s.data.toList [45]).length) (m : Int) (u : TypeId) (hP : Calls Tryz.prog 62 #[.string s,.int .i64 10,.int .i64 64] w fun e w' => ∃ x,e = .returned (.tuple #[.int .i64 m,.iface u x]) ∧ Below w.heap.size w w') :
 Calls Tryz.prog 52 #[.string s] w fun e w' => e = .returned (.tuple #[.int .i64 0,.bool false]) ∧ Below w.heap.size w w' := by
 go_enter Tryz.func52,Tryz.ntmps52
 go_wp2_with (first | (go_at_call 61; refine (Tryz.strings_TrimPrefix _ _ _).mono ?_; rintro e w' ⟨rfl,rfl⟩) | (go_at_call 62; refine hP.mono ?_; rintro e w1 ⟨x,rfl,hw1⟩))
 all_goals first
  | (exfalso; omega)
  | (go_ret2; exact ⟨rfl,hw1⟩)
theorem rd_ok (s : ByteArray) (w : World) (hl : ¬ 18 < (Lib.trimPrefix s.data.toList [45]).length) (v : Int) (hs : Lib.itoa v = s.data.toList) (hP : Calls Tryz.prog 62 #[.string s,.int .i64 10,.int .i64 64] w fun e w' => e = .returned (.tuple #[.int .i64 v,.nilIface]) ∧ Below w.heap.size w w')
 (hF : ∀ w',Below w.heap.size w w' → Calls Tryz.prog 74 #[.int .i64 v,.int .i64 10] w' fun e w'' => e = .returned (.string ⟨(Lib.itoa v).toArray⟩) ∧ Below w'.heap.size w' w'') :
 Calls Tryz.prog 52 #[.string s] w fun e w' => e = .returned (.tuple #[.int .i64 v,.bool true]) ∧ Below w.heap.size w w' := by
 have HS := Lib.hid hs; clear hs
 go_enter Tryz.func52,Tryz.ntmps52
 go_wp2_with (first | (go_at_call 61; refine (Tryz.strings_TrimPrefix _ _ _).mono ?_; rintro e w' ⟨rfl,rfl⟩) | (go_at_call 62; refine hP.mono ?_; rintro e w1 ⟨rfl,hw1⟩) | (go_at_call 74; refine (hF _ hw1).mono ?_; rintro e w2 ⟨rfl,hw2⟩) | go_in)
 all_goals first
  | (exfalso; omega)
  | skip
 ·rename_i h
  exfalso
  rw [HS.out] at h
  simp [Lib.toList_data] at h
 ·go_ret2; exact ⟨rfl,hw1.trans (hw2.mono hw1.size)⟩
theorem rd_no (s : ByteArray) (w : World) (hl : ¬ 18 < (Lib.trimPrefix s.data.toList [45]).length) (v : Int) (hs : Lib.itoa v ≠ s.data.toList) (hP : Calls Tryz.prog 62 #[.string s,.int .i64 10,.int .i64 64] w fun e w' => e = .returned (.tuple #[.int .i64 v,.nilIface]) ∧ Below w.heap.size w w')
 (hF : ∀ w',Below w.heap.size w w' → Calls Tryz.prog 74 #[.int .i64 v,.int .i64 10] w' fun e w'' => e = .returned (.string ⟨(Lib.itoa v).toArray⟩) ∧ Below w'.heap.size w' w'') :
 Calls Tryz.prog 52 #[.string s] w fun e w' => e = .returned (.tuple #[.int .i64 0,.bool false]) ∧ Below w.heap.size w w' := by
 have HS := Lib.hid hs; clear hs
 go_enter Tryz.func52,Tryz.ntmps52
 go_wp2_with (first | (go_at_call 61; refine (Tryz.strings_TrimPrefix _ _ _).mono ?_; rintro e w' ⟨rfl,rfl⟩) | (go_at_call 62; refine hP.mono ?_; rintro e w1 ⟨rfl,hw1⟩) | (go_at_call 74; refine (hF _ hw1).mono ?_; rintro e w2 ⟨rfl,hw2⟩) | go_in)
 all_goals first
  | (exfalso; omega)
  | skip
 ·go_ret2; exact ⟨rfl,hw1.trans (hw2.mono hw1.size)⟩
 ·rename_i h
  exfalso
  apply HS.out
  simpa [Lib.toList_data] using h
end
theorem rd_walk : RdWalk Tryz.prog 52 62 74 := ⟨⟨_,Tryz.func52,by decide +kernel,rfl⟩,rd_long,rd_bad,rd_ok,rd_no⟩
theorem ok_impl_ReadDecimal : FOk Tryz.prog phi 522 impl_ReadDecimal_c := readDecimal_ok Tryz.laysC174 Tryz.laysM173 ⟨5,by kernel_rfl⟩ (by kernel_rfl) (by kernel_rfl) rd_walk (by kernel_rfl)
theorem ok_impl_ReadList : FOk Tryz.prog phi 457 impl_ReadList_c := fn_ok hm (D := impl_ReadList_D) (DOk.cons ok_impl_within (DOk.cons ok_impl_ReadDecimal (DOk.cons ok_strings_Split DOk.nil))) (by kernel_rfl) _ _ _ _
theorem ok_impl_ReadPaper : FOk Tryz.prog phi 388 impl_ReadPaper_c := fn_ok hm (D := impl_ReadPaper_D) (DOk.cons ok_impl_PaperText (DOk.cons ok_impl_ReadList (DOk.cons ok_impl_SplitWords DOk.nil))) (by kernel_rfl) _ _ _ _
theorem ok_spec_ValidPapers : FOk Tryz.prog phi 229 spec_ValidPapers_c := fn_ok hm (D := spec_ValidPapers_D) (DOk.cons ok_spec_l20Ok DOk.nil) (by kernel_rfl) _ _ _ _
theorem ok_laws_FnDocuments : FOk Tryz.prog phi 1277 laws_FnDocuments_c := fn_ok hm (D := laws_FnDocuments_D) (DOk.cons ok_laws_b10Rises (DOk.cons ok_laws_b10Long (DOk.cons ok_spec_ValidPapers (DOk.cons ok_impl_PaperText (DOk.cons ok_impl_ReadPaper (DOk.cons ok_impl_AddPaper (DOk.cons ok_spec_DrawAddPaper (DOk.cons ok_impl_SpanOf (DOk.cons ok_spec_Agrees (DOk.cons ok_impl_Agrees (DOk.cons ok_impl_MostTrusted (DOk.cons ok_spec_DrawMostTrusted DOk.nil)))))))))))) (by kernel_rfl) _ _ _ _
theorem law : ∀ x,wfU laws_FnDocuments_c.ps x → ∃ y,laws_FnDocuments_c.f x = some y ∧ resA laws_FnDocuments_c y = ([A.bool true],[]) := fun x hx => ⟨true,(laws_FnDocuments_true x.1 x.2.1 hx.1 hx.2.1),rfl⟩
theorem own : ownKnob Tryz.prog.godebug = none := by kernel_rfl
theorem laid : laidOutB Tryz.prog = true := by kernel_rfl
theorem reads : ∀ t ∈ Tryz.f3.params.toList,Tryz.prog.readableRec t = true ∧ t < Tryz.prog.types.size := by
 have h : (Tryz.f3.params.toList.all fun t => Tryz.prog.readableRec t && decide (t < Tryz.prog.types.size)) = true := by kernel_rfl
 intro t ht
 have := List.all_eq_true.1 h t ht
 simpa only [Bool.and_eq_true,decide_eq_true_eq] using this
theorem spec_eq (H : Type) : ∀ (ds : List (DataW H)),ds.length = Tryz.f3.params.toList.length → Rows.fnDocumentsSpec.fn H ds = { results := [.lit (.bool true)],args := ds } := by
 intro ds hd
 have hd : ds.length = 2 := hd
 match ds,hd with
 | [d0,d1],_ => rfl
theorem tab (W : World) (hL : laidMetH Tryz.prog Rows.fnDocumentsRow.laid W) : ∀ i,Tryz.prog.globalNamed pow10Name = some i → Lib.TabIs Tryz.prog W pow10Name .u64 Lib.pow10Tab := by
 intro i hi
 have hp : (Rows.fnDocumentsRow.laid.all fun x => x.2.handleName?.isNone) = true := by kernel_rfl
 rw [MakeChecks.laidMetH_plain _ _ _ hp] at hL
 have h1 : laidMet Tryz.prog (("internal/strconv.uint64pow10",Rows.laid_internal_strconv_uint64pow10) :: [("unicode/utf8.acceptRanges",Rows.laid_unicode_utf8_acceptRanges),("strconv.ErrRange",Rows.laid_strconv_ErrRange),("strconv.ErrSyntax",Rows.laid_strconv_ErrSyntax),("unicode/utf8.first",Rows.laid_unicode_utf8_first)]) W := (laidMet.tail (laidMet.tail hL))
 have e : (Rows.laid_internal_strconv_uint64pow10 : DataW Unit) = Lib.tabData .u64 Lib.pow10Tab := by kernel_rfl
 rw [e] at h1
 exact Lib.tabIs_of_head (t := 149) (e := 67) (n := 20) hi (by obtain rfl := Option.some.inj ((show Tryz.prog.globalNamed pow10Name = some 5 by kernel_rfl).symm.trans hi); kernel_rfl) (by kernel_rfl) (by kernel_rfl) (by kernel_rfl) (by kernel_rfl) h1
theorem errs (W : World) (hL : laidMetH Tryz.prog Rows.fnDocumentsRow.laid W) : ∀ n,errNames.contains n = true → ∀ i,Tryz.prog.globalNamed n = some i → ∃ u v,W.var? Tryz.prog n = some #[.iface u v] := by
 intro n hn i hi
 have hn : n = "strconv.ErrSyntax" ∨ n = "strconv.ErrRange" := by simpa [errNames] using hn
 have hp : (Rows.fnDocumentsRow.laid.all fun x => x.2.handleName?.isNone) = true := by kernel_rfl
 rw [MakeChecks.laidMetH_plain _ _ _ hp] at hL
 rcases hn with rfl | rfl
 ·have h1 : laidMet Tryz.prog (("strconv.ErrSyntax",Rows.laid_strconv_ErrSyntax) :: [("unicode/utf8.first",Rows.laid_unicode_utf8_first)]) W := (laidMet.tail (laidMet.tail (laidMet.tail (laidMet.tail (laidMet.tail hL)))))
  exact laid_iface (ti := 93) h1 ⟨_,_,rfl⟩ hi (by obtain rfl := Option.some.inj ((show Tryz.prog.globalNamed "strconv.ErrSyntax" = some 1 by kernel_rfl).symm.trans hi); kernel_rfl) Tryz.underlying93
 ·have h1 : laidMet Tryz.prog (("strconv.ErrRange",Rows.laid_strconv_ErrRange) :: [("strconv.ErrSyntax",Rows.laid_strconv_ErrSyntax),("unicode/utf8.first",Rows.laid_unicode_utf8_first)]) W := (laidMet.tail (laidMet.tail (laidMet.tail (laidMet.tail hL))))
  exact laid_iface (ti := 93) h1 ⟨_,_,rfl⟩ hi (by obtain rfl := Option.some.inj ((show Tryz.prog.globalNamed "strconv.ErrRange" = some 2 by kernel_rfl).symm.trans hi); kernel_rfl) Tryz.underlying93
theorem contract (H : Type) (enc : TypeId × Value → H) (W : World) (base : Nat) (args : Array Value) (ds gs : List (DataW H)) (before : List MemPlace)
 (hval : ∀ (j : Nat) t v,Tryz.f3.params[j]? = some t → args[j]? = some v → Value.okWide Tryz.prog W .any base t v)
 (hW : DataW.Whole enc Tryz.prog Tryz.f3.params.toList Rows.fnDocumentsSpec.vars false W args.toList ds gs before) (hL : laidMetH Tryz.prog Rows.fnDocumentsRow.laid W) (hsh : W.ShapedOpen Tryz.prog) :
 Calls Tryz.prog 3 args W fun e W' => ∃ v,e = .returned v ∧ Rows.fnDocumentsSpec.post enc Tryz.prog Tryz.f3 false true false false W args v W' :=
 row_contract (φ := phi) (g := 1277) (n := 20) ok_laws_FnDocuments rfl rfl (tb := 4) Tryz.underlying4 (by kernel_rfl) rfl law laid reads spec_eq W base args ds gs before hval hW (Glob.start hsh (tab W hL) (errs W hL))
theorem lifted (os : Os) (started : os.Started) (H : Type) (enc : TypeId × Value → H) :
 ReturnsInHanded {} Tryz.checked os 3 .any (fun w args => (Rows.fnDocumentsSpec.pre enc Tryz.prog Tryz.f3 Rows.fnDocumentsRow.domain false w args ∧ laidMetH Tryz.prog Rows.fnDocumentsRow.laid w) ∧ sizedMet enc Tryz.prog Tryz.f3 (OpenSpec.ofChange Rows.fnDocumentsSpec) false w args) (Rows.fnDocumentsSpec.post enc Tryz.prog Tryz.f3 false true false false) := by
 refine returnsInHanded_laid (C := Tryz.checked) (laid := Rows.fnDocumentsRow.laid) own started (by kernel_rfl) Tryz.func3
  (ChangeSpec.witness_shaped (enc := enc) (C := Tryz.checked) (os := os) (X := fun w _ => laidMetH Tryz.prog Rows.fnDocumentsRow.laid w) false (World.laidAll Tryz.prog os Rows.fnDocumentsRow.laid) #[.slice none 0 0,.slice none 0 0] 12 (World.laidAll_os _ _ _)
    (World.shaped_of_ZipB (by kernel_rfl) (by kernel_rfl)) (by kernel_rfl) (by kernel_rfl) (by kernel_rfl)
    (by rw [MakeChecks.laidMetH_plain _ _ _ (by kernel_rfl)]; exact laidMet_laidAll _ (by kernel_rfl) (by kernel_rfl))) ?_
 intro W base args ds gs before hval hW hL hsh
 exact contract H enc W base args ds gs before hval hW hL hsh
theorem over : Rows.fnDocumentsRow.holds Tryz.pinned (OpenSpec.ofChange Rows.fnDocumentsSpec) :=
 OpenClaim.holds_of_wide 3 Tryz.f3 rfl rfl rfl rfl rfl rfl rfl ⟨rfl,rfl,rfl,rfl,rfl⟩ rfl rfl rfl rfl rfl (by kernel_rfl) Tryz.func3 (by kernel_rfl)
  (of_decide_eq_true (by kernel_rfl)) (by unfold Func.isWrapper; first | (rw [if_pos (by decide +kernel)]; kernel_rfl) | (rw [if_neg (by decide +kernel)]; exact ⟨rfl,rfl⟩))
  (fun os started H enc _ => lifted os started H enc)
theorem card : Rows.FnDocumentsCardSaid :=
 Claim7.holds_tied_plain_at .later [] [.data,.data,.data,.data,.sentinel,.sentinel,.pinned] true (true,"8543a67a8069d11e1f0238456b842b8d91bc9b74008c1838639966f55e78cac1") true over (fun _ h => by cases h) (by kernel_rfl) (fun _ h => by cases h) fnDocuments_row_tie rfl ⟨rfl,rfl⟩ (by kernel_rfl) rfl
  (fun f fn hf hfn => by
    obtain rfl : f = 3 := Option.some.inj ((show Tryz.prog.funcNamed "loop.example/g01061/laws.FnDocuments" = some 3 by kernel_rfl).symm.trans hf) |>.symm
    obtain rfl : fn = Tryz.f3 := (Option.some.inj (Tryz.func3.symm.trans hfn)).symm
    exact ⟨by kernel_rfl,fun j t ht => by
     have hm : t ∈ Tryz.f3.params.toList := by simpa using Array.mem_of_getElem? ht
     have hall : (Tryz.f3.params.toList.all fun u => !Tryz.prog.wantsStandIn u) = true := by kernel_rfl
     exact (show Tryz.prog.wantsStandIn t = false by simpa using List.all_eq_true.1 hall t hm)⟩)
  (by kernel_rfl)
theorem proved : Rows.FnDocumentsCardSaid := card
end Go.Proofs.YtknkhfhabagfeaaGreatDoor.fnDocuments
