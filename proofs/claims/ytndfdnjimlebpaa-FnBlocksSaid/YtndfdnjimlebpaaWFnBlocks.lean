/- The law FnBlocks answers true for every input, whatever it is, and leaves its arguments as they were. Conditions: none. -/
import Derived.Test.YtndfdnjimlebpaaQFnBlocks
import Derived.Test.YtndfdnjimlebpaaRows
import Derived.Test.YtndfdnjimlebpaaL5
import Derived.Test.YtndfdnjimlebpaaLD
import Derived.Carry
import Derived.Deep.RegionHeld3
import Derived.Deep.RegionLaw
import Derived.Shelf.RegionOpenPlain
import Derived.Shelf.Spec.SlicesInsert
import Derived.Test.YtndfdnjimlebpaaShelf
import Derived.WalkKit
import Derived.ProofKit
import Derived.OpenShut
import Derived.JoinedOf
import Derived.Handed
set_option linter.unusedVariables false
set_option maxRecDepth 100000
namespace Go.Proofs.Ytndfdnjimlebpaa.fnBlocks
open Go.Ab Go.Ab.P
open Go.ChangeShapes Go.WideShapes Go.ChangeAt Go.RowKit
def phiL : List (Nat × Nat) := [(89,4),(441,13),(847,34),(463,23),(557,36),(642,37),(1026,38),(992,39),(726,53),(963,47),(833,40),(875,25),(11,51),(12,52),(13,46),(879,32),(880,33),(575,22),(1025,35),(876,24),(567,14),(193,5),(22,42),(21,27),(24,28),(565,29),(570,16),(950,41),(828,26),(569,15),(572,20),(1273,31),(571,18),(877,30),(568,17),(192,6),(186,7),(573,19),(191,8),(190,9),(189,10),(574,21),(187,11),(188,12),(1274,3)]
def phi (n : Nat) : Nat := (phiL.lookup n).getD 1000000
theorem hm : Try.prog.follows .mixedOrders = true := by kernel_rfl
theorem ok_laws_r8Long : FOk Try.prog phi 89 laws_r8Long_c := fn_ok hm (D := laws_r8Long_D) DOk.nil (by kernel_rfl) _ _ _ _
theorem ok_spec_l00From : FOk Try.prog phi 441 spec_l00From_c := fn_ok hm (D := spec_l00From_D) DOk.nil (by kernel_rfl) _ _ _ _
theorem ok_spec_l00Src_next : FOk Try.prog phi 847 spec_l00Src_next_c := fn_ok hm (D := spec_l00Src_next_D) DOk.nil (by kernel_rfl) _ _ _ _
theorem ok_spec_l00Src_pick : FOk Try.prog phi 463 spec_l00Src_pick_c := fn_ok hm (D := spec_l00Src_pick_D) (DOk.cons ok_spec_l00Src_next DOk.nil) (by kernel_rfl) _ _ _ _
theorem ok_spec_l00Src_text : FOk Try.prog phi 557 spec_l00Src_text_c := fn_ok hm (D := spec_l00Src_text_D) (DOk.cons ok_spec_l00Src_pick DOk.nil) (by kernel_rfl) _ _ _ _
theorem ok_spec_l00Src_one : FOk Try.prog phi 642 spec_l00Src_one_c := fn_ok hm (D := spec_l00Src_one_D) (DOk.cons ok_spec_l00Src_pick DOk.nil) (by kernel_rfl) _ _ _ _
theorem ok_spec_l00Src_word : FOk Try.prog phi 1026 spec_l00Src_word_c := fn_ok hm (D := spec_l00Src_word_D) (DOk.cons ok_spec_l00Src_pick (DOk.cons ok_spec_l00Src_next DOk.nil)) (by kernel_rfl) _ _ _ _
theorem ok_spec_l21DrawOne : FOk Try.prog phi 992 spec_l21DrawOne_c := fn_ok hm (D := spec_l21DrawOne_D) (DOk.cons ok_spec_l00Src_pick (DOk.cons ok_spec_l00Src_text DOk.nil)) (by kernel_rfl) _ _ _ _
theorem ok_spec_l01Dec : FOk Try.prog phi 726 spec_l01Dec_c := fn_ok hm (D := spec_l01Dec_D) DOk.nil (by kernel_rfl) _ _ _ _
theorem ok_spec_l01List : FOk Try.prog phi 963 spec_l01List_c := fn_ok hm (D := spec_l01List_D) (DOk.cons ok_spec_l01Dec DOk.nil) (by kernel_rfl) _ _ _ _
theorem ok_spec_l21Text : FOk Try.prog phi 833 spec_l21Text_c := fn_ok hm (D := spec_l21Text_D) (DOk.cons ok_spec_l01List DOk.nil) (by kernel_rfl) _ _ _ _
theorem ok_spec_l29DrawOne : FOk Try.prog phi 875 spec_l29DrawOne_c := fn_ok hm (D := spec_l29DrawOne_D) (DOk.cons ok_spec_l00Src_pick (DOk.cons ok_spec_l00Src_text (DOk.cons ok_spec_l00Src_one (DOk.cons ok_spec_l21Text (DOk.cons ok_spec_l21DrawOne (DOk.cons ok_spec_l00Src_word DOk.nil)))))) (by kernel_rfl) _ _ _ _
theorem ok_spec_l01Small : FOk Try.prog phi 11 spec_l01Small_c := fn_ok hm (D := spec_l01Small_D) DOk.nil (by kernel_rfl) _ _ _ _
theorem ok_spec_l01Digit : FOk Try.prog phi 12 spec_l01Digit_c := fn_ok hm (D := spec_l01Digit_D) DOk.nil (by kernel_rfl) _ _ _ _
theorem ok_spec_l01Name : FOk Try.prog phi 13 spec_l01Name_c := fn_ok hm (D := spec_l01Name_D) (DOk.cons ok_spec_l01Small (DOk.cons ok_spec_l01Digit DOk.nil)) (by kernel_rfl) _ _ _ _
theorem ok_spec_l29One : FOk Try.prog phi 879 spec_l29One_c := fn_ok hm (D := spec_l29One_D) (DOk.cons ok_spec_l01Name DOk.nil) (by kernel_rfl) _ _ _ _
theorem ok_spec_l29Before : FOk Try.prog phi 880 spec_l29Before_c := fn_ok hm (D := spec_l29Before_D) DOk.nil (by kernel_rfl) _ _ _ _
theorem ok_spec_l29Ok : FOk Try.prog phi 575 spec_l29Ok_c := fn_ok hm (D := spec_l29Ok_D) (DOk.cons ok_spec_l29One (DOk.cons ok_spec_l29Before DOk.nil)) (by kernel_rfl) _ _ _ _
theorem ok_spec_l29Put : FOk Try.prog phi 1025 spec_l29Put_c := fn_ok hm (D := spec_l29Put_D) (DOk.cons ok_spec_l29Before DOk.nil) (by kernel_rfl) _ _ _ _
theorem ok_spec_PutBlock : FOk Try.prog phi 876 spec_PutBlock_c := fn_ok hm (D := spec_PutBlock_D) (DOk.cons ok_spec_l29Ok (DOk.cons ok_spec_l29One (DOk.cons ok_spec_l29Put DOk.nil))) (by kernel_rfl) _ _ _ _
theorem ok_spec_l29Draw : FOk Try.prog phi 567 spec_l29Draw_c := fn_ok hm (D := spec_l29Draw_D) (DOk.cons ok_spec_l00Src_pick (DOk.cons ok_spec_l29DrawOne (DOk.cons ok_spec_PutBlock DOk.nil))) (by kernel_rfl) _ _ _ _
theorem ok_spec_R8Blocks : FOk Try.prog phi 193 spec_R8Blocks_c := fn_ok hm (D := spec_R8Blocks_D) (DOk.cons ok_spec_l00From (DOk.cons ok_spec_l29Draw DOk.nil)) (by kernel_rfl) _ _ _ _
theorem ok_impl_isDigit : FOk Try.prog phi 22 impl_isDigit_c := fn_ok hm (D := impl_isDigit_D) DOk.nil (by kernel_rfl) _ _ _ _
theorem ok_impl_few : FOk Try.prog phi 21 impl_few_c := fn_ok hm (D := impl_few_D) DOk.nil (by kernel_rfl) _ _ _ _
theorem ok_impl_IsName : FOk Try.prog phi 24 impl_IsName_c := fn_ok hm (D := impl_IsName_D) (DOk.cons ok_impl_few (DOk.cons ok_impl_isDigit DOk.nil)) (by kernel_rfl) _ _ _ _
theorem ok_strings_Contains : FOk Try.prog phi 565 strings_Contains_c := contains_ok Try.laysM144 (of_decide_eq_true (by kernel_rfl)) (by kernel_rfl)
theorem ok_impl_ValidBlock : FOk Try.prog phi 570 impl_ValidBlock_c := fn_ok hm (D := impl_ValidBlock_D) (DOk.cons ok_impl_few (DOk.cons ok_impl_IsName (DOk.cons ok_strings_Contains DOk.nil))) (by kernel_rfl) _ _ _ _
theorem ok_strings_Compare : FOk Try.prog phi 950 strings_Compare_c := compare_ok Try.lays106 (by kernel_rfl)
theorem ok_impl_Block_compare : FOk Try.prog phi 828 impl_Block_compare_c := fn_ok hm (D := impl_Block_compare_D) (DOk.cons ok_strings_Compare DOk.nil) (by kernel_rfl) _ _ _ _
theorem ok_impl_ValidBlocks : FOk Try.prog phi 569 impl_ValidBlocks_c := fn_ok hm (D := impl_ValidBlocks_D) (DOk.cons ok_impl_few (DOk.cons ok_impl_ValidBlock (DOk.cons ok_impl_Block_compare DOk.nil))) (by kernel_rfl) _ _ _ _
theorem ok_impl_clone_impl_Block_ : FOk Try.prog phi 572 impl_clone_impl_Block__c := fn_ok hm (D := impl_clone_impl_Block__D) DOk.nil (by kernel_rfl) _ _ _ _
theorem ok_slices_BinarySearchFunc___impl_Block_impl_Block_impl_Block__impl_Block_compare : FOk Try.prog phi 1273 slices_BinarySearchFunc___impl_Block_impl_Block_impl_Block__impl_Block_compare_c := fn_ok hm (D := slices_BinarySearchFunc___impl_Block_impl_Block_impl_Block__impl_Block_compare_D) (DOk.cons ok_impl_Block_compare DOk.nil) (by kernel_rfl) _ _ _ _
theorem ok_impl_blockOf : FOk Try.prog phi 571 impl_blockOf_c := fn_ok hm (D := impl_blockOf_D) (DOk.cons ok_impl_Block_compare (DOk.cons ok_slices_BinarySearchFunc___impl_Block_impl_Block_impl_Block__impl_Block_compare DOk.nil)) (by kernel_rfl) _ _ _ _
section
open Go.Shelf Go.Proofs
theorem ins30_info : (Try.prog.info? 27).map (fun i => (i.zero,i.size,i.bytes)) = some (some (.agg #[.string ⟨#[]⟩,.string ⟨#[]⟩,.string ⟨#[]⟩]),3,48) := by kernel_rfl
set_option maxHeartbeats 3200000 in
theorem ins30_walk : InsertWalk Try.prog 30 3 := ⟨⟨_,Try.func30,by decide +kernel,rfl⟩,by
 intro ad va vo vc xs w hx hc h1 hva
 obtain ⟨i,hi,he⟩ := Option.map_eq_some_iff.1 ins30_info
 simp only [Prod.mk.injEq] at he
 obtain ⟨hz0,hsz,hby⟩ := he
 obtain ⟨cp,w1,hrun,q1,q2,q3,q4,q5⟩ := ins_nil (vc := vc) (ad := ad) Try.underlying24 hi hsz hz0 rfl (by rw [hby]; decide) hx hc h1 24
 go_enter Try.func30,Try.ntmps30
 go_wp2_with (first | (at_builtin; refine Go.Lib.wpList_append_run _ rfl _ _ _ _ rfl _ _ rfl rfl _ _ hrun ?_) | fail)
 go_ret
 exact ⟨_,cp,rfl,q1,Nat.le_refl _,q2,q3,q4,q5⟩,by
 intro b o n c i va vo vc cs xs w hc0 hnc hin hn hl hcs hr hx hc hne h1c h1 hva hsh
 obtain ⟨iE,hi,he⟩ := Option.map_eq_some_iff.1 ins30_info
 simp only [Prod.mk.injEq] at he
 obtain ⟨hz0,hsz,hby⟩ := he
 have hbw : b < w.heap.size := hr.lt
 rcases Nat.lt_or_ge i n with hlt | hge
 ·have hI : ¬ ((i : Int) = (n : Int)) := by omega
  have hszm : (Try.prog.info? 27).map (·.size) = some 3 := by rw [hi]; simp [hsz]
  have hzE : ∀ w,(Go.sizeOf 27).run Try.prog w = .ok 3 w := fun w => by simp [Go.sizeOf,typeInfo,hi,hsz]
  have hdl : (cs.drop (i * 3)).length = (n - i) * 3 := by rw [List.length_drop,hl]; omega
  have h1d : ∀ v ∈ cs.drop (i * 3),v.oneCell' = true := fun v hv => h1c v (List.mem_of_mem_drop hv)
  have hb1 : (0 : Int) ≤ (i : Int) + 1 := by omega
  have htn : ((i : Int) + 1).toNat = i + 1 := by omega
  by_cases hroom : n + 1 ≤ c
  ·obtain ⟨tA,kA,hsa,hkA⟩ := hsh
   obtain ⟨C,eC,frC,g1,g2,g3⟩ := id hr
   have hsb : w.shape? b = some (eC,C.size) := by simp [World.shape?,g1]
   have hov : ∀ lb cb,(callFunc 44 #[.slice (some ⟨va,vo,none⟩) 1 vc,.slice (some ⟨b,o + (i + 1) * 3,none⟩) lb cb]).run Try.prog w = .ok (.value (.bool false)) w := fun lb cb => by
    rw [run_callFunc_extern Try.func44 (by kernel_rfl) (by kernel_rfl) (by kernel_rfl) (e := Extern.SlicesOverlaps.overlaps #[24,24] #[4]) (by kernel_rfl),
     Go.Lib.run_overlaps_own w 24 4 27 Try.underlying24 3 hzE ⟨va,vo,none⟩ ⟨b,o + (i + 1) * 3,none⟩ 1 vc lb cb hne tA eC kA C.size hsa hsb hkA (g3 _ (by omega)) (g3 _ (Nat.le_refl _))]
    rfl
   have hcs0 : Cells w.drew b o cs := fun j v hj => hcs j v hj
   have hr0 : Room w.drew b (o + c * 3) := hr
   have hcp1 : ∀ ty dc sc,(Builtin.copy_ #[24,24] ty #[.slice (some ⟨b,o + (i + 1) * 3,none⟩) (n - i) dc,.slice (some ⟨b,o + i * 3,none⟩) (n + 1 - i) sc]).run Try.prog w.drew = .ok (goInt ((n - i : Nat) : Int)) (w.drew.setCells b (o + (i + 1) * 3) (cs.drop (i * 3))) := fun ty dc sc =>
    run_copy_cellsZ w.drew _ _ ty 27 b (o + (i + 1) * 3) (n - i) dc ⟨b,o + i * 3,none⟩ (n + 1 - i) sc (cs.drop (i * 3)) 3 (n - i) Try.underlying24 hszm (by simp only [Nat.min_def]; split <;> omega) hdl
     (fun j v hj => by
       rw [World.cell?_add]
       exact (hcs0.drop (i * 3)) j v hj) (fun j hj => (hr0.cell (by omega)).1) (fun j hj => (hr0.cell (by omega)).2) h1d
   obtain ⟨W1,hW1⟩ : ∃ W1,W1 = w.drew.setCells b (o + (i + 1) * 3) (cs.drop (i * 3)) := ⟨_,rfl⟩
   have hT1 : Turned b w W1 := by rw [hW1]; exact ((Turned.refl b w).drew).setCells (.inl rfl) _ _
   have hr1 : Room W1 b (o + c * 3) := by rw [hW1]; exact room_setCells _ _ _ hr0
   have hx1 : Cells W1 va vo xs := hc.of_block (hT1.block va hva hne)
   have hcp2 : ∀ ty dc,(Builtin.copy_ #[24,24] ty #[.slice (some ⟨b,o + i * 3,none⟩) (n + 1 - i) dc,.slice (some ⟨va,vo,none⟩) 1 vc]).run Try.prog W1 = .ok (goInt 1) (W1.setCells b (o + i * 3) xs) := fun ty dc =>
    run_copy_cellsZ W1 _ _ ty 27 b (o + i * 3) (n + 1 - i) dc ⟨va,vo,none⟩ 1 vc xs 3 1 Try.underlying24 hszm (by simp only [Nat.min_def]; split <;> omega) (by omega)
     (fun j v hj => by rw [World.cell?_add]; exact hx1 j v hj) (fun j hj => (hr1.cell (by omega)).1) (fun j hj => (hr1.cell (by omega)).2) h1
   have fin : Cells (W1.setCells b (o + i * 3) xs) b o (cs.take (i * 3) ++ xs ++ cs.drop (i * 3)) := by
    rw [hW1]
    exact ins_place hlt hroom hl hcs0 hr0 hx
   have finT : Turned b w (W1.setCells b (o + i * 3) xs) := hT1.setCells (.inl rfl) _ _
   have finR : Room (W1.setCells b (o + i * 3) xs) b (o + c * 3) := room_setCells _ _ _ hr1
   have hngt : ¬ ((n : Int) + 1 > (c : Int)) := by omega
   have hci : ¬ (c = i) := by omega
   have hci1 : ¬ (c = i + 1) := by omega
   have hb3 : (i : Int) ≤ (n : Int) + 1 := by omega
   have hw1 : IntKind.i64.wrap ((i : Int) + 1) = (i : Int) + 1 := by rw [IntKind.wrap_i64]; omega
   have mixed : Try.prog.follows .mixedOrders = true := by kernel_rfl
   clear hcs0 hr0 hr1 hx1 hT1 g1 g2 g3 hsb hsa
   subst hW1
   go_enter Try.func30,Try.ntmps30
   go_wp2_with (simp only [hov])
   go_region_law_o (refine step_copy_runI rfl _ _ 24 24 rfl _ _ (by simp [Act.eval,Act.put]) (by simp [Act.eval,Act.put]) (hcp1 _ _ _) ?_)
   go_wp2_with (at_builtin; refine wpList_copy_runI _ rfl _ _ 24 24 rfl _ _ rfl rfl (hcp2 _ _) ?_)
   go_ret
   exact ⟨b,o,c,rfl,hroom,.inl rfl,fin,finR,finT⟩
  ·have hgt : (n : Int) + 1 > (c : Int) := by omega
   have hzc : ∀ k,(Builtin.zeroCells (Value.agg #[.string ⟨#[]⟩,.string ⟨#[]⟩,.string ⟨#[]⟩]).cells k).size = k * 3 := fun k => by rw [size_zeroCells]; rfl
   have hold : (Builtin.firstCells iE.size i (.slice (some ⟨b,o,none⟩) i c)).run Try.prog w.drew = .ok (cs.take (i * 3)).toArray w.drew := by
    rw [hsz]
    exact run_firstCells_some w.drew 3 i ⟨b,o,none⟩ i c (cs.take (i * 3)) (by rw [List.length_take]; omega) (fun j v hj => by
     rw [World.cell?_add]
     exact (hcs.take (i * 3)) j v hj)
   have hik : i + (n + 1 - i) = n + 1 := by omega
   have hkk : (n : Int) + 1 - (i : Int) = ((n + 1 - i : Nat) : Int) := by omega
   have hrz := Go.Lib.run_append_grow_zeros w 24 3 24 27 iE _ .i64 .i64 Try.underlying24 Try.underlying3 hi hz0 (some ⟨b,o,none⟩) i c (cs.take (i * 3)) hold (n + 1 - i) (by omega) (by omega) (by omega) (by omega) (by rw [hby]; omega) (by rw [hby,hik]; exact growslice_fits (by omega) (by omega))
   rw [hik,← hkk] at hrz
   obtain ⟨G,hG⟩ : ∃ G,G = grownCap w (n + 1) c 27 := ⟨_,rfl⟩
   have hGn : n + 1 ≤ G := by rw [hG]; exact grownCap_ge w _ _ _
   rw [← hG] at hrz
   obtain ⟨ROW,hROW⟩ : ∃ ROW : Array Value,ROW = (cs.take (i * 3)).toArray ++ Builtin.zeroCells (Value.agg #[.string ⟨#[]⟩,.string ⟨#[]⟩,.string ⟨#[]⟩]).cells (n + 1 - i) ++ Builtin.zeroCells (Value.agg #[.string ⟨#[]⟩,.string ⟨#[]⟩,.string ⟨#[]⟩]).cells (G - (n + 1)) := ⟨_,rfl⟩
   rw [← hROW] at hrz
   have hRs : ROW.size = G * 3 := by
    rw [hROW,Array.size_append,Array.size_append,hzc,hzc,List.size_toArray,List.length_take]
    omega
   have hh : (w.drew.alloc (.cells ROW 27)).heap = w.heap.push (.cells ROW 27) := rfl
   have hcell0 : Cells (w.drew.alloc (.cells ROW 27)) w.heap.size 0 (cs.take (i * 3) ++ (Builtin.zeroCells (Value.agg #[.string ⟨#[]⟩,.string ⟨#[]⟩,.string ⟨#[]⟩]).cells (n + 1 - i)).toList) := by
    have := cells_push hh
    have e : ROW.toList = (cs.take (i * 3) ++ (Builtin.zeroCells (Value.agg #[.string ⟨#[]⟩,.string ⟨#[]⟩,.string ⟨#[]⟩]).cells (n + 1 - i)).toList) ++ (Builtin.zeroCells (Value.agg #[.string ⟨#[]⟩,.string ⟨#[]⟩,.string ⟨#[]⟩]).cells (G - (n + 1))).toList := by rw [hROW]; simp
    rw [e] at this
    exact this.left
   have hroomN : Room (w.drew.alloc (.cells ROW 27)) w.heap.size (G * 3) := by rw [← hRs]; exact room_push hh
   have hT : Turned b w (w.drew.alloc (.cells ROW 27)) := ((Turned.refl b w).drew).alloc _
   obtain ⟨W1,hW1⟩ : ∃ W1,W1 = w.drew.alloc (.cells ROW 27) := ⟨_,rfl⟩
   have hW1s : W1.heap.size = w.heap.size + 1 := by rw [hW1,hh]; simp
   rw [← hW1] at hrz hcell0 hroomN hT
   have hxW : Cells W1 va vo xs := hc.of_block (hT.block va hva hne)
   have hcW : Cells W1 b o cs := fun j v hj => by
    have : W1.heap[b]? = w.heap[b]? := by rw [hW1,hh,Array.getElem?_push_lt hbw,Array.getElem?_eq_getElem hbw]
    have h := hcs j v hj
    simp only [World.cell?,this] at h ⊢
    exact h
   have hcpA : ∀ ty dc,(Builtin.copy_ #[24,24] ty #[.slice (some ⟨w.heap.size,i * 3,none⟩) (n + 1 - i) dc,.slice (some ⟨va,vo,none⟩) 1 vc]).run Try.prog W1 = .ok (goInt 1) (W1.setCells w.heap.size (i * 3) xs) := fun ty dc =>
    run_copy_cellsZ W1 _ _ ty 27 w.heap.size (i * 3) (n + 1 - i) dc ⟨va,vo,none⟩ 1 vc xs 3 1 Try.underlying24 hszm (by simp only [Nat.min_def]; split <;> omega) (by omega)
     (fun j v hj => by rw [World.cell?_add]; exact hxW j v hj) (fun j hj => (hroomN.cell (by omega)).1) (fun j hj => (hroomN.cell (by omega)).2) h1
   obtain ⟨W2,hW2⟩ : ∃ W2,W2 = (W1.setCells w.heap.size (i * 3) xs).drew := ⟨_,rfl⟩
   have hT2 : Turned b w W2 := by rw [hW2]; exact (hT.setCells (.inr (Nat.le_refl _)) _ _).drew
   have hroom2 : Room W2 w.heap.size (G * 3) := by rw [hW2]; exact room_setCells (b := w.heap.size) xs (i * 3) W1 hroomN
   have hcW2 : Cells W2 b o cs := by
    have : W2.heap[b]? = W1.heap[b]? := by rw [hW2]; exact setCells_block _ _ _ _ _ (by omega)
    exact hcW.of_block this
   have hcpB : ∀ ty dc sc,(Builtin.copy_ #[24,24] ty #[.slice (some ⟨w.heap.size,(i + 1) * 3,none⟩) (n + 1 - (i + 1)) dc,.slice (some ⟨b,o + i * 3,none⟩) (n - i) sc]).run Try.prog W2 = .ok (goInt ((n - i : Nat) : Int)) (W2.setCells w.heap.size ((i + 1) * 3) (cs.drop (i * 3))) := fun ty dc sc =>
    run_copy_cellsZ W2 _ _ ty 27 w.heap.size ((i + 1) * 3) (n + 1 - (i + 1)) dc ⟨b,o + i * 3,none⟩ (n - i) sc (cs.drop (i * 3)) 3 (n - i) Try.underlying24 hszm (by simp only [Nat.min_def]; split <;> omega) hdl
     (fun j v hj => by
       rw [World.cell?_add]
       have := (hcW2.drop (i * 3)) j v hj
       exact this) (fun j hj => (hroom2.cell (by omega)).1) (fun j hj => (hroom2.cell (by omega)).2) h1d
   have hGi : ¬ (G = i) := by omega
   have hGi1 : ¬ (G = i + 1) := by omega
   have hci : ¬ (c = i) := by omega
   have hb3 : (i : Int) ≤ (n : Int) := by omega
   have hw1 : IntKind.i64.wrap ((i : Int) + 1) = (i : Int) + 1 := by rw [IntKind.wrap_i64]; omega
   have fin : Cells (W2.setCells w.heap.size ((i + 1) * 3) (cs.drop (i * 3))) w.heap.size 0 (cs.take (i * 3) ++ xs ++ cs.drop (i * 3)) := by
    have := new_place (w := W1) hlt hl hx (by rw [Array.length_toList,hzc]) hcell0 hroomN (by omega)
    rw [hW2,← drew_setCells]
    intro j v hj
    exact this j v hj
   have finT : Turned b w (W2.setCells w.heap.size ((i + 1) * 3) (cs.drop (i * 3))) := hT2.setCells (.inr (Nat.le_refl _)) _ _
   have finR : Room (W2.setCells w.heap.size ((i + 1) * 3) (cs.drop (i * 3))) w.heap.size (0 + G * 3) := by rw [Nat.zero_add]; exact room_setCells _ _ _ hroom2
   have finS : w.heap.size < (W2.setCells w.heap.size ((i + 1) * 3) (cs.drop (i * 3))).heap.size := by
    rw [setCells_size,hW2]
    show w.heap.size < (W1.setCells w.heap.size (i * 3) xs).heap.size
    rw [setCells_size,hW1s]; omega
   subst hW2
   clear hkk hik hold hROW hG hRs hW1 hh hcell0 hroomN hroom2 hcW hcW2 hxW hzc
   go_enter Try.func30,Try.ntmps30
   go_wp2_with (first
    | (at_builtin; refine Go.Lib.wpList_append_run _ rfl _ _ _ _ rfl _ _ rfl rfl _ _ hrz ?_)
    | (at_builtin; refine wpList_copy_runI _ rfl _ _ 24 24 rfl _ _ rfl rfl (hcpA _ _) ?_))
   have mixed : Try.prog.follows .mixedOrders = true := by kernel_rfl
   go_region_law_o (refine step_copy_runI rfl _ _ 24 24 rfl (.slice (some ⟨w.heap.size,(i + 1) * 3,none⟩) (n + 1 - (i + 1)) (G - (i + 1))) (.slice (some ⟨b,o + i * 3,none⟩) (n - i) (c - i)) (by simp [Act.eval,Act.put]) (by simp [Act.eval,Act.put]) (hcpB 3 (G - (i + 1)) (c - i)) ?_)
   go_wp2
   go_ret
   exact ⟨w.heap.size,0,G,rfl,hGn,.inr ⟨Nat.le_refl _,finS⟩,fin,finR,finT⟩
 ·obtain rfl : i = n := by omega
  obtain ⟨b',o',cp,w1,hrun,q1,q2,q3,q4,q5⟩ := ins_end (vc := vc) Try.underlying24 hi hsz hz0 rfl (by rw [hby]; decide) hnc hn hl hcs hr hx hc h1 24
  go_enter Try.func30,Try.ntmps30
  go_wp2_with (first | (at_builtin; refine Go.Lib.wpList_append_run _ rfl _ _ _ _ rfl _ _ rfl rfl _ _ hrun ?_) | fail)
  all_goals go_ret
  all_goals refine ⟨b',o',cp,rfl,q1,q2,?_,q4,q5⟩
  all_goals (rw [List.take_of_length_le (by omega),List.drop_eq_nil_of_le (by omega),List.append_nil]; exact q3)⟩
end
theorem ok_slices_Insert___impl_Block_impl_Block_ : FOk Try.prog phi 877 slices_Insert___impl_Block_impl_Block__c := insert_ok (E := T_Block) (by kernel_rfl) (by kernel_rfl) (by decide) ins30_walk (by kernel_rfl)
theorem ok_impl_put : FOk Try.prog phi 568 impl_put_c := fn_ok hm (D := impl_put_D) (DOk.cons ok_impl_blockOf (DOk.cons ok_impl_clone_impl_Block_ (DOk.cons ok_slices_Insert___impl_Block_impl_Block_ DOk.nil))) (by kernel_rfl) _ _ _ _
theorem ok_impl_PutBlock : FOk Try.prog phi 192 impl_PutBlock_c := fn_ok hm (D := impl_PutBlock_D) (DOk.cons ok_impl_put (DOk.cons ok_impl_ValidBlocks (DOk.cons ok_impl_ValidBlock DOk.nil))) (by kernel_rfl) _ _ _ _
theorem ok_impl_BlockNamed : FOk Try.prog phi 186 impl_BlockNamed_c := fn_ok hm (D := impl_BlockNamed_D) (DOk.cons ok_impl_ValidBlocks (DOk.cons ok_impl_blockOf DOk.nil)) (by kernel_rfl) _ _ _ _
section
open Go.Shelf Go.Proofs Go.Lib
theorem del19_info : (Try.prog.info? 27).map (fun i => (i.zero,i.size,i.bytes)) = some (some (.agg #[.string ⟨#[]⟩,.string ⟨#[]⟩,.string ⟨#[]⟩]),3,48) := by kernel_rfl
set_option maxHeartbeats 3200000 in
theorem del19_walk : DeleteWalk Try.prog 19 3 := ⟨⟨_,Try.func19,by decide +kernel,rfl⟩,by
 intro b o n c i j cs w hc0 hnc hij hjn hn hl hcs hr h1c
 obtain ⟨iE,hi,he⟩ := Option.map_eq_some_iff.1 del19_info
 simp only [Prod.mk.injEq] at he
 obtain ⟨hz0,hsz,hby⟩ := he
 have hbw : b < w.heap.size := hr.lt
 have hzv : ∀ w,(zeroValue 27).run Try.prog w = .ok (.agg #[.string ⟨#[]⟩,.string ⟨#[]⟩,.string ⟨#[]⟩]) w := fun w => by simp [zeroValue,typeInfo,hi,hz0]
 have hcs0 : Cells w.drew b o cs := fun j v hj => hcs j v hj
 have hr0 : Room w.drew b (o + c * 3) := hr
 obtain ⟨news,hnews⟩ : ∃ news,news = cs.drop (j * 3) := ⟨_,rfl⟩
 have hlen : news.length = (n - j) * 3 := by rw [hnews,List.length_drop,hl]; omega
 obtain ⟨A,hA,hsrc⟩ : ∃ A : Addr,(if c = j then some (⟨b,o,none⟩ : Addr) else some ⟨b,o + j * 3,none⟩) = some A ∧ Hid (∀ t u,news[t]? = some u → w.drew.cell? (A.add t) = some u) := by
  by_cases h : c = j
  ·refine ⟨⟨b,o,none⟩,by simp [h],fun t u hu => ?_⟩
   have h0 : news.length = 0 := by rw [hlen]; omega
   rw [List.length_eq_zero_iff.1 h0] at hu
   simp at hu
  ·refine ⟨⟨b,o + j * 3,none⟩,by simp [h],fun t u hu => ?_⟩
   rw [hnews] at hu
   rw [World.cell?_add]
   exact (hcs0.drop (j * 3)) t u hu
 have s1 : Hid (news.length = (n - j) * 3) := hlen
 have s2 : Hid (∀ u ∈ news,u.oneCell' = true) := fun u hu => h1c u (by rw [hnews] at hu; exact List.mem_of_mem_drop hu)
 have s3 : Hid (∀ t,t < news.length → (w.drew.cell? ⟨b,o + i * 3 + t,none⟩).isSome = true ∧ w.drew.frozen? ⟨b,o + i * 3 + t,none⟩ = false) := fun t ht => by
  rw [hlen] at ht
  rw [Nat.add_assoc]
  exact hr0.cell (by omega)
 obtain ⟨W1,hW1⟩ : ∃ W1,W1 = w.drew.setCells b (o + i * 3) news := ⟨_,rfl⟩
 have hr1 : Room W1 b (o + c * 3) := by rw [hW1]; exact room_setCells _ _ _ hr0
 have hT1 : Turned b w W1 := by rw [hW1]; exact ((Turned.refl b w).drew).setCells (.inl rfl) _ _
 have hcl : ∀ ty,(Builtin.clear_ #[24] ty #[.slice (some ⟨b,o + (i + (n - j)) * 3,none⟩) (n - (i + (n - j))) (c - (i + (n - j)))]).run Try.prog W1 = .ok (.tuple #[]) (W1.setCells b (o + (i + (n - j)) * 3) (Builtin.zeroCells (Value.agg #[.string ⟨#[]⟩,.string ⟨#[]⟩,.string ⟨#[]⟩]).cells (n - (i + (n - j)))).toList) :=
  fun ty => run_clear_cellsZ W1 _ _ ty _ 3 Try.underlying24 hzv rfl (by decide) b (o + (i + (n - j)) * 3) _ _ (by omega) (fun t ht => by rw [Nat.add_assoc]; exact (hr1.cell (by omega)).1) (fun t ht => by rw [Nat.add_assoc]; exact (hr1.cell (by omega)).2)
 have fin : Cells (W1.setCells b (o + (i + (n - j)) * 3) (Builtin.zeroCells (Value.agg #[.string ⟨#[]⟩,.string ⟨#[]⟩,.string ⟨#[]⟩]).cells (n - (i + (n - j)))).toList) b o (cs.take (i * 3) ++ cs.drop (j * 3)) := by
  rw [hW1,hnews]
  exact del_place hij hjn hnc hl hcs0 hr0 (by rw [Array.length_toList,size_zeroCells]; show (n - (i + (n - j))) * 3 = _; congr 1; omega)
 have finT : Turned b w (W1.setCells b (o + (i + (n - j)) * 3) (Builtin.zeroCells (Value.agg #[.string ⟨#[]⟩,.string ⟨#[]⟩,.string ⟨#[]⟩]).cells (n - (i + (n - j)))).toList) := hT1.setCells (.inl rfl) _ _
 have finR : Room (W1.setCells b (o + (i + (n - j)) * 3) (Builtin.zeroCells (Value.agg #[.string ⟨#[]⟩,.string ⟨#[]⟩,.string ⟨#[]⟩]).cells (n - (i + (n - j)))).toList) b (o + c * 3) := room_setCells _ _ _ hr1
 have hW : Hid (W1 = w.drew.setCells b (o + i * 3) news) := hW1
 have hnij : ¬ ((i : Int) = (j : Int)) := by omega
 have hic : i ≤ c := by omega
 have hjc : j ≤ c := by omega
 have mixed : Try.prog.follows .mixedOrders = true := by kernel_rfl
 clear hW1 hcs0 hr0 hr1 hT1 hnews hlen hcs
 go_enter Try.func19,Try.ntmps19
 go_wp2_with (fail)
 go_region_law_o (refine step_append_room rfl (.tmp 22) (.tmp 25) 24 rfl 27 iE 3 Try.underlying24 hi hsz b o i c (by simp [Act.eval,Act.put]) A (n - j) (c - j) news (by simp [Act.eval,Act.put]) s1.out hsrc.out s2.out (by omega) s3.out ?_; rw [← hW.out])
 go_wp2
 go_ret
 exact ⟨by rw [show n - (j - i) = i + (n - j) by omega]; rfl,fin,finR,finT⟩⟩
end
theorem ok_slices_Delete___impl_Block_impl_Block_ : FOk Try.prog phi 573 slices_Delete___impl_Block_impl_Block__c := delete_ok (E := T_Block) (by kernel_rfl) (by kernel_rfl) del19_walk (by kernel_rfl)
theorem ok_impl_DropBlock : FOk Try.prog phi 191 impl_DropBlock_c := fn_ok hm (D := impl_DropBlock_D) (DOk.cons ok_impl_ValidBlocks (DOk.cons ok_impl_blockOf (DOk.cons ok_impl_clone_impl_Block_ (DOk.cons ok_slices_Delete___impl_Block_impl_Block_ DOk.nil)))) (by kernel_rfl) _ _ _ _
theorem ok_impl_MergeBlocks : FOk Try.prog phi 190 impl_MergeBlocks_c := fn_ok hm (D := impl_MergeBlocks_D) (DOk.cons ok_impl_put (DOk.cons ok_impl_ValidBlocks (DOk.cons ok_impl_clone_impl_Block_ DOk.nil))) (by kernel_rfl) _ _ _ _
theorem ok_impl_BlocksOfKind : FOk Try.prog phi 189 impl_BlocksOfKind_c := fn_ok hm (D := impl_BlocksOfKind_D) (DOk.cons ok_impl_ValidBlocks DOk.nil) (by kernel_rfl) _ _ _ _
theorem ok_spec_l29Same : FOk Try.prog phi 574 spec_l29Same_c := fn_ok hm (D := spec_l29Same_D) DOk.nil (by kernel_rfl) _ _ _ _
theorem ok_spec_SameBlocks : FOk Try.prog phi 187 spec_SameBlocks_c := fn_ok hm (D := spec_SameBlocks_D) (DOk.cons ok_spec_l29Same DOk.nil) (by kernel_rfl) _ _ _ _
theorem ok_spec_ValidBlocks : FOk Try.prog phi 188 spec_ValidBlocks_c := fn_ok hm (D := spec_ValidBlocks_D) (DOk.cons ok_spec_l29Ok DOk.nil) (by kernel_rfl) _ _ _ _
theorem ok_laws_FnBlocks : FOk Try.prog phi 1274 laws_FnBlocks_c := fn_ok hm (D := laws_FnBlocks_D) (DOk.cons ok_laws_r8Long (DOk.cons ok_impl_BlockNamed (DOk.cons ok_spec_SameBlocks (DOk.cons ok_spec_ValidBlocks (DOk.cons ok_impl_BlocksOfKind (DOk.cons ok_impl_MergeBlocks (DOk.cons ok_impl_DropBlock (DOk.cons ok_impl_PutBlock (DOk.cons ok_spec_R8Blocks DOk.nil))))))))) (by kernel_rfl) _ _ _ _
theorem law : ∀ x,wfU laws_FnBlocks_c.ps x → ∃ y,laws_FnBlocks_c.f x = some y ∧ resA laws_FnBlocks_c y = ([A.bool true],[]) := fun x hx => ⟨true,(laws_FnBlocks_true x.1 x.2.1 hx.1 hx.2.1),rfl⟩
theorem own : ownKnob Try.prog.godebug = none := by kernel_rfl
theorem laid : laidOutB Try.prog = true := by kernel_rfl
theorem reads : ∀ t ∈ Try.f3.params.toList,Try.prog.readableRec t = true ∧ t < Try.prog.types.size := by
 have h : (Try.f3.params.toList.all fun t => Try.prog.readableRec t && decide (t < Try.prog.types.size)) = true := by kernel_rfl
 intro t ht
 have := List.all_eq_true.1 h t ht
 simpa only [Bool.and_eq_true,decide_eq_true_eq] using this
theorem spec_eq (H : Type) : ∀ (ds : List (DataW H)),ds.length = Try.f3.params.toList.length → Rows.fnBlocksSpec.fn H ds = { results := [.lit (.bool true)],args := ds } := by
 intro ds hd
 have hd : ds.length = 2 := hd
 match ds,hd with
 | [d0,d1],_ => rfl
theorem tab (W : World) : ∀ i,Try.prog.globalNamed pow10Name = some i → Lib.TabIs Try.prog W pow10Name .u64 Lib.pow10Tab := by
 intro i hi
 have h : Try.prog.globalNamed pow10Name = none := by kernel_rfl
 rw [h] at hi; cases hi
theorem errs (W : World) : ∀ n,errNames.contains n = true → ∀ i,Try.prog.globalNamed n = some i → ∃ u v,W.var? Try.prog n = some #[.iface u v] := by
 intro n hn i hi
 have hn : n = "strconv.ErrSyntax" ∨ n = "strconv.ErrRange" := by simpa [errNames] using hn
 rcases hn with rfl | rfl
 ·have h : Try.prog.globalNamed "strconv.ErrSyntax" = none := by kernel_rfl
  rw [h] at hi; cases hi
 ·have h : Try.prog.globalNamed "strconv.ErrRange" = none := by kernel_rfl
  rw [h] at hi; cases hi
theorem contract (H : Type) (enc : TypeId × Value → H) (W : World) (base : Nat) (args : Array Value) (ds gs : List (DataW H)) (before : List MemPlace)
 (hval : ∀ (j : Nat) t v,Try.f3.params[j]? = some t → args[j]? = some v → Value.okWide Try.prog W .any base t v)
 (hW : DataW.Whole enc Try.prog Try.f3.params.toList Rows.fnBlocksSpec.vars false W args.toList ds gs before) (hsh : W.ShapedOpen Try.prog) :
 Calls Try.prog 3 args W fun e W' => ∃ v,e = .returned v ∧ Rows.fnBlocksSpec.post enc Try.prog Try.f3 false true false false W args v W' :=
 row_contract (φ := phi) (g := 1274) (n := 20) ok_laws_FnBlocks rfl rfl (tb := 4) Try.underlying4 (by kernel_rfl) rfl law laid reads spec_eq W base args ds gs before hval hW (Glob.start hsh (tab W) (errs W))
theorem lifted (os : Os) (started : os.Started) (H : Type) (enc : TypeId × Value → H) :
 ReturnsInHanded {} Try.checked os 3 .any (Rows.fnBlocksSpec.pre6 enc Try.prog Try.f3 Rows.fnBlocksRow.domain false) (Rows.fnBlocksSpec.post enc Try.prog Try.f3 false true false false) := by
 refine returnsInHanded_of_change_shaped (C := Try.checked) own started (by kernel_rfl) Try.func3
  (ChangeSpec.witness6 (enc := enc) (C := Try.checked) false ⟨#[],#[.slice none 0 0,.slice none 0 0],[]⟩ 12 (by kernel_rfl) (by kernel_rfl) (by kernel_rfl) (by kernel_rfl)) ?_
 intro W base args ds gs before hval hW _ _ hsh _
 exact contract H enc W base args ds gs before hval hW hsh
theorem over : Rows.fnBlocksRow.holds Try.pinned (OpenSpec.ofChange Rows.fnBlocksSpec) :=
 OpenClaim.holds_of_wide 3 Try.f3 rfl rfl rfl rfl rfl rfl rfl ⟨rfl,rfl,rfl,rfl,rfl⟩ rfl rfl rfl rfl rfl (by kernel_rfl) Try.func3 (by kernel_rfl)
  (of_decide_eq_true (by kernel_rfl)) (by unfold Func.isWrapper; first | (rw [if_pos (by decide +kernel)]; kernel_rfl) | (rw [if_neg (by decide +kernel)]; exact ⟨rfl,rfl⟩))
  (fun os started H enc _ => lifted os started H enc)
theorem proved : Rows.FnBlocksSaid := over
end Go.Proofs.Ytndfdnjimlebpaa.fnBlocks
