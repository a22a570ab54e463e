/- The law FnBooks answers true for every input, whatever it is, and leaves its arguments as they were. Conditions: none. -/
import Derived.Test.YtfmleilgdgmpeaaGreatDoorQFnBooks
import Derived.Test.YtfmleilgdgmpeaaGreatDoorRows
import Derived.Test.YtfmleilgdgmpeaaGreatDoorL5
import Derived.Test.YtfmleilgdgmpeaaGreatDoorLD
import Derived.Carry
import Derived.Deep.RegionHeld3
import Derived.Shelf.RegionOpenPlain
import Derived.Shelf.Spec.SlicesInsert
import Derived.Test.YtfmleilgdgmpeaaGreatDoorL8
import Derived.Test.YtfmleilgdgmpeaaGreatDoorShelf
import Derived.Test.YtfmleilgdgmpeaaGreatDoorCards
import Derived.Test.YtfmleilgdgmpeaaGreatDoorTie
import Derived.LaidMore
import Derived.Lay
import Derived.SevenTiedAt
import Derived.Stop.Joined
import Derived.WalkKit
import Derived.ProofKit
import Derived.OpenShut
import Derived.JoinedOf
import Derived.Handed
set_option linter.unusedVariables false
set_option maxRecDepth 100000
namespace Go.Proofs.YtfmleilgdgmpeaaGreatDoor.fnBooks
open Go.Ab Go.Ab.P
open Go.ChangeShapes Go.WideShapes Go.ChangeAt Go.RowKit
def phiL : List (Nat × Nat) := [(89,17),(441,33),(847,82),(463,54),(557,44),(906,83),(618,55),(642,69),(617,53),(217,18),(216,19),(23,37),(623,62),(22,88),(21,60),(24,61),(621,57),(213,22),(823,84),(861,85),(520,56),(622,63),(212,23),(215,20),(619,59),(620,58),(214,21),(211,24),(210,25),(4,39),(209,26),(864,92),(524,66),(207,28),(683,80),(458,50),(522,64),(523,65),(208,27),(206,29),(205,30),(151,31),(625,67),(624,68),(204,32),(1266,4)]
def phi (n : Nat) : Nat := (phiL.lookup n).getD 1000000
theorem hm : Tryz.prog.follows .mixedOrders = true := by kernel_rfl
theorem ok_laws_r8Long : FOk Tryz.prog phi 89 laws_r8Long_c := fn_ok hm (D := laws_r8Long_D) DOk.nil (by kernel_rfl) _ _ _ _
theorem ok_spec_l00From : FOk Tryz.prog phi 441 spec_l00From_c := fn_ok hm (D := spec_l00From_D) DOk.nil (by kernel_rfl) _ _ _ _
theorem ok_spec_l00Src_next : FOk Tryz.prog phi 847 spec_l00Src_next_c := fn_ok hm (D := spec_l00Src_next_D) DOk.nil (by kernel_rfl) _ _ _ _
theorem ok_spec_l00Src_pick : FOk Tryz.prog phi 463 spec_l00Src_pick_c := fn_ok hm (D := spec_l00Src_pick_D) (DOk.cons ok_spec_l00Src_next DOk.nil) (by kernel_rfl) _ _ _ _
theorem ok_spec_l00Src_text : FOk Tryz.prog phi 557 spec_l00Src_text_c := fn_ok hm (D := spec_l00Src_text_D) (DOk.cons ok_spec_l00Src_pick DOk.nil) (by kernel_rfl) _ _ _ _
theorem ok_spec_l25DrawName : FOk Tryz.prog phi 906 spec_l25DrawName_c := fn_ok hm (D := spec_l25DrawName_D) (DOk.cons ok_spec_l00Src_text DOk.nil) (by kernel_rfl) _ _ _ _
theorem ok_spec_l25DrawOne : FOk Tryz.prog phi 618 spec_l25DrawOne_c := fn_ok hm (D := spec_l25DrawOne_D) (DOk.cons ok_spec_l00Src_pick (DOk.cons ok_spec_l25DrawName DOk.nil)) (by kernel_rfl) _ _ _ _
theorem ok_spec_l00Src_one : FOk Tryz.prog phi 642 spec_l00Src_one_c := fn_ok hm (D := spec_l00Src_one_D) (DOk.cons ok_spec_l00Src_pick DOk.nil) (by kernel_rfl) _ _ _ _
theorem ok_spec_l25Draw : FOk Tryz.prog phi 617 spec_l25Draw_c := fn_ok hm (D := spec_l25Draw_D) (DOk.cons ok_spec_l00Src_pick (DOk.cons ok_spec_l25DrawOne (DOk.cons ok_spec_l00Src_one DOk.nil))) (by kernel_rfl) _ _ _ _
theorem ok_spec_R8Book : FOk Tryz.prog phi 217 spec_R8Book_c := fn_ok hm (D := spec_R8Book_D) (DOk.cons ok_spec_l00From (DOk.cons ok_spec_l25Draw DOk.nil)) (by kernel_rfl) _ _ _ _
theorem ok_spec_R8Entry : FOk Tryz.prog phi 216 spec_R8Entry_c := fn_ok hm (D := spec_R8Entry_D) (DOk.cons ok_spec_l00From (DOk.cons ok_spec_l00Src_pick (DOk.cons ok_spec_l25DrawOne DOk.nil))) (by kernel_rfl) _ _ _ _
theorem ok_impl_within : FOk Tryz.prog phi 23 impl_within_c := fn_ok hm (D := impl_within_D) DOk.nil (by kernel_rfl) _ _ _ _
theorem ok_impl_isRentDay : FOk Tryz.prog phi 623 impl_isRentDay_c := fn_ok hm (D := impl_isRentDay_D) (DOk.cons ok_impl_within DOk.nil) (by kernel_rfl) _ _ _ _
theorem ok_impl_isDigit : FOk Tryz.prog phi 22 impl_isDigit_c := fn_ok hm (D := impl_isDigit_D) DOk.nil (by kernel_rfl) _ _ _ _
theorem ok_impl_few : FOk Tryz.prog phi 21 impl_few_c := fn_ok hm (D := impl_few_D) DOk.nil (by kernel_rfl) _ _ _ _
theorem ok_impl_IsName : FOk Tryz.prog phi 24 impl_IsName_c := fn_ok hm (D := impl_IsName_D) (DOk.cons ok_impl_few (DOk.cons ok_impl_isDigit DOk.nil)) (by kernel_rfl) _ _ _ _
theorem ok_impl_Entry_valid : FOk Tryz.prog phi 621 impl_Entry_valid_c := fn_ok hm (D := impl_Entry_valid_D) (DOk.cons ok_impl_within (DOk.cons ok_impl_IsName (DOk.cons ok_impl_isRentDay DOk.nil))) (by kernel_rfl) _ _ _ _
theorem ok_impl_ValidBook : FOk Tryz.prog phi 213 impl_ValidBook_c := fn_ok hm (D := impl_ValidBook_D) (DOk.cons ok_impl_few (DOk.cons ok_impl_Entry_valid DOk.nil)) (by kernel_rfl) _ _ _ _
theorem ok_slices_Sort___string_string_ : FOk Tryz.prog phi 823 slices_Sort___string_string__c := sortS_ok Tryz.lays190 (by kernel_rfl)
theorem ok_slices_Compact___string_string_ : FOk Tryz.prog phi 861 slices_Compact___string_string__c := compactS_ok Tryz.lays194 (by kernel_rfl)
theorem ok_impl_sortedSet : FOk Tryz.prog phi 520 impl_sortedSet_c := fn_ok hm (D := impl_sortedSet_D) (DOk.cons ok_slices_Sort___string_string_ (DOk.cons ok_slices_Compact___string_string_ DOk.nil)) (by kernel_rfl) _ _ _ _
theorem ok_impl_Entry_change : FOk Tryz.prog phi 622 impl_Entry_change_c := fn_ok hm (D := impl_Entry_change_D) DOk.nil (by kernel_rfl) _ _ _ _
theorem ok_impl_AccountOf : FOk Tryz.prog phi 212 impl_AccountOf_c := fn_ok hm (D := impl_AccountOf_D) (DOk.cons ok_impl_IsName (DOk.cons ok_impl_ValidBook (DOk.cons ok_impl_Entry_change (DOk.cons ok_impl_isRentDay DOk.nil)))) (by kernel_rfl) _ _ _ _
theorem ok_impl_TrialBalance : FOk Tryz.prog phi 215 impl_TrialBalance_c := fn_ok hm (D := impl_TrialBalance_D) (DOk.cons ok_impl_AccountOf (DOk.cons ok_impl_ValidBook (DOk.cons ok_impl_sortedSet DOk.nil))) (by kernel_rfl) _ _ _ _
theorem ok_impl_clone_impl_Entry_ : FOk Tryz.prog phi 619 impl_clone_impl_Entry__c := fn_ok hm (D := impl_clone_impl_Entry__D) DOk.nil (by kernel_rfl) _ _ _ _
section
open Go.Shelf Go.Proofs
theorem ins58_info : (Tryz.prog.info? 47).map (fun i => (i.zero,i.size,i.bytes)) = some (some (.agg #[.int .i64 0,.string ⟨#[]⟩,.string ⟨#[]⟩,.int .i64 0]),4,48) := by kernel_rfl
set_option maxHeartbeats 3200000 in
theorem ins58_walk : InsertWalk Tryz.prog 58 4 := ⟨⟨_,Tryz.func58,by decide +kernel,rfl⟩,by
 intro ad va vo vc xs w hx hc h1 hva
 obtain ⟨i,hi,he⟩ := Option.map_eq_some_iff.1 ins58_info
 simp only [Prod.mk.injEq] at he
 obtain ⟨hz0,hsz,hby⟩ := he
 obtain ⟨cp,w1,hrun,q1,q2,q3,q4,q5⟩ := ins_nil (vc := vc) (ad := ad) Tryz.underlying44 hi hsz hz0 rfl (by rw [hby]; decide) hx hc h1 44
 go_enter Tryz.func58,Tryz.ntmps58
 go_wp2_with (first | (at_builtin; refine Go.Lib.wpList_append_run _ rfl _ _ _ _ rfl _ _ rfl rfl _ _ hrun ?_) | fail)
 go_ret
 exact ⟨_,cp,rfl,q1,Nat.le_refl _,q2,q3,q4,q5⟩,by
 intro b o n c i va vo vc cs xs w hc0 hnc hin hn hl hcs hr hx hc hne h1c h1 hva hsh
 obtain ⟨iE,hi,he⟩ := Option.map_eq_some_iff.1 ins58_info
 simp only [Prod.mk.injEq] at he
 obtain ⟨hz0,hsz,hby⟩ := he
 have hbw : b < w.heap.size := hr.lt
 rcases Nat.lt_or_ge i n with hlt | hge
 ·have hI : ¬ ((i : Int) = (n : Int)) := by omega
  have hszm : (Tryz.prog.info? 47).map (·.size) = some 4 := by rw [hi]; simp [hsz]
  have hzE : ∀ w,(Go.sizeOf 47).run Tryz.prog w = .ok 4 w := fun w => by simp [Go.sizeOf,typeInfo,hi,hsz]
  have hdl : (cs.drop (i * 4)).length = (n - i) * 4 := by rw [List.length_drop,hl]; omega
  have h1d : ∀ v ∈ cs.drop (i * 4),v.oneCell' = true := fun v hv => h1c v (List.mem_of_mem_drop hv)
  have hb1 : (0 : Int) ≤ (i : Int) + 1 := by omega
  have htn : ((i : Int) + 1).toNat = i + 1 := by omega
  by_cases hroom : n + 1 ≤ c
  ·obtain ⟨tA,kA,hsa,hkA⟩ := hsh
   obtain ⟨C,eC,frC,g1,g2,g3⟩ := id hr
   have hsb : w.shape? b = some (eC,C.size) := by simp [World.shape?,g1]
   have hov : ∀ lb cb,(callFunc 86 #[.slice (some ⟨va,vo,none⟩) 1 vc,.slice (some ⟨b,o + (i + 1) * 4,none⟩) lb cb]).run Tryz.prog w = .ok (.value (.bool false)) w := fun lb cb => by
    rw [run_callFunc_extern Tryz.func86 (by kernel_rfl) (by kernel_rfl) (by kernel_rfl) (e := Extern.SlicesOverlaps.overlaps #[44,44] #[4]) (by kernel_rfl),
     Go.Lib.run_overlaps_own w 44 4 47 Tryz.underlying44 4 hzE ⟨va,vo,none⟩ ⟨b,o + (i + 1) * 4,none⟩ 1 vc lb cb hne tA eC kA C.size hsa hsb hkA (g3 _ (by omega)) (g3 _ (Nat.le_refl _))]
    rfl
   have hcs0 : Cells w.drew b o cs := fun j v hj => hcs j v hj
   have hr0 : Room w.drew b (o + c * 4) := hr
   have hcp1 : ∀ ty dc sc,(Builtin.copy_ #[44,44] ty #[.slice (some ⟨b,o + (i + 1) * 4,none⟩) (n - i) dc,.slice (some ⟨b,o + i * 4,none⟩) (n + 1 - i) sc]).run Tryz.prog w.drew = .ok (goInt ((n - i : Nat) : Int)) (w.drew.setCells b (o + (i + 1) * 4) (cs.drop (i * 4))) := fun ty dc sc =>
    run_copy_cellsZ w.drew _ _ ty 47 b (o + (i + 1) * 4) (n - i) dc ⟨b,o + i * 4,none⟩ (n + 1 - i) sc (cs.drop (i * 4)) 4 (n - i) Tryz.underlying44 hszm (by simp only [Nat.min_def]; split <;> omega) hdl
     (fun j v hj => by
       rw [World.cell?_add]
       exact (hcs0.drop (i * 4)) j v hj) (fun j hj => (hr0.cell (by omega)).1) (fun j hj => (hr0.cell (by omega)).2) h1d
   obtain ⟨W1,hW1⟩ : ∃ W1,W1 = w.drew.setCells b (o + (i + 1) * 4) (cs.drop (i * 4)) := ⟨_,rfl⟩
   have hT1 : Turned b w W1 := by rw [hW1]; exact ((Turned.refl b w).drew).setCells (.inl rfl) _ _
   have hr1 : Room W1 b (o + c * 4) := by rw [hW1]; exact room_setCells _ _ _ hr0
   have hx1 : Cells W1 va vo xs := hc.of_block (hT1.block va hva hne)
   have hcp2 : ∀ ty dc,(Builtin.copy_ #[44,44] ty #[.slice (some ⟨b,o + i * 4,none⟩) (n + 1 - i) dc,.slice (some ⟨va,vo,none⟩) 1 vc]).run Tryz.prog W1 = .ok (goInt 1) (W1.setCells b (o + i * 4) xs) := fun ty dc =>
    run_copy_cellsZ W1 _ _ ty 47 b (o + i * 4) (n + 1 - i) dc ⟨va,vo,none⟩ 1 vc xs 4 1 Tryz.underlying44 hszm (by simp only [Nat.min_def]; split <;> omega) (by omega)
     (fun j v hj => by rw [World.cell?_add]; exact hx1 j v hj) (fun j hj => (hr1.cell (by omega)).1) (fun j hj => (hr1.cell (by omega)).2) h1
   have fin : Cells (W1.setCells b (o + i * 4) xs) b o (cs.take (i * 4) ++ xs ++ cs.drop (i * 4)) := by
    rw [hW1]
    exact ins_place hlt hroom hl hcs0 hr0 hx
   have finT : Turned b w (W1.setCells b (o + i * 4) xs) := hT1.setCells (.inl rfl) _ _
   have finR : Room (W1.setCells b (o + i * 4) xs) b (o + c * 4) := room_setCells _ _ _ hr1
   have hngt : ¬ ((n : Int) + 1 > (c : Int)) := by omega
   have hci : ¬ (c = i) := by omega
   have hci1 : ¬ (c = i + 1) := by omega
   have hb3 : (i : Int) ≤ (n : Int) + 1 := by omega
   have hw1 : IntKind.i64.wrap ((i : Int) + 1) = (i : Int) + 1 := by rw [IntKind.wrap_i64]; omega
   have mixed : Tryz.prog.follows .mixedOrders = true := by kernel_rfl
   clear hcs0 hr0 hr1 hx1 hT1 g1 g2 g3 hsb hsa
   subst hW1
   go_enter Tryz.func58,Tryz.ntmps58
   go_wp2_with (simp only [hov])
   go_region_law_o (refine step_copy_runI rfl _ _ 44 44 rfl _ _ (by simp [Act.eval,Act.put]) (by simp [Act.eval,Act.put]) (hcp1 _ _ _) ?_)
   go_wp2_with (at_builtin; refine wpList_copy_runI _ rfl _ _ 44 44 rfl _ _ rfl rfl (hcp2 _ _) ?_)
   go_ret
   exact ⟨b,o,c,rfl,hroom,.inl rfl,fin,finR,finT⟩
  ·have hgt : (n : Int) + 1 > (c : Int) := by omega
   have hzc : ∀ k,(Builtin.zeroCells (Value.agg #[.int .i64 0,.string ⟨#[]⟩,.string ⟨#[]⟩,.int .i64 0]).cells k).size = k * 4 := fun k => by rw [size_zeroCells]; rfl
   have hold : (Builtin.firstCells iE.size i (.slice (some ⟨b,o,none⟩) i c)).run Tryz.prog w.drew = .ok (cs.take (i * 4)).toArray w.drew := by
    rw [hsz]
    exact run_firstCells_some w.drew 4 i ⟨b,o,none⟩ i c (cs.take (i * 4)) (by rw [List.length_take]; omega) (fun j v hj => by
     rw [World.cell?_add]
     exact (hcs.take (i * 4)) j v hj)
   have hik : i + (n + 1 - i) = n + 1 := by omega
   have hkk : (n : Int) + 1 - (i : Int) = ((n + 1 - i : Nat) : Int) := by omega
   have hrz := Go.Lib.run_append_grow_zeros w 44 3 44 47 iE _ .i64 .i64 Tryz.underlying44 Tryz.underlying3 hi hz0 (some ⟨b,o,none⟩) i c (cs.take (i * 4)) hold (n + 1 - i) (by omega) (by omega) (by omega) (by omega) (by rw [hby]; omega) (by rw [hby,hik]; exact growslice_fits (by omega) (by omega))
   rw [hik,← hkk] at hrz
   obtain ⟨G,hG⟩ : ∃ G,G = grownCap w (n + 1) c 47 := ⟨_,rfl⟩
   have hGn : n + 1 ≤ G := by rw [hG]; exact grownCap_ge w _ _ _
   rw [← hG] at hrz
   obtain ⟨ROW,hROW⟩ : ∃ ROW : Array Value,ROW = (cs.take (i * 4)).toArray ++ Builtin.zeroCells (Value.agg #[.int .i64 0,.string ⟨#[]⟩,.string ⟨#[]⟩,.int .i64 0]).cells (n + 1 - i) ++ Builtin.zeroCells (Value.agg #[.int .i64 0,.string ⟨#[]⟩,.string ⟨#[]⟩,.int .i64 0]).cells (G - (n + 1)) := ⟨_,rfl⟩
   rw [← hROW] at hrz
   have hRs : ROW.size = G * 4 := by
    rw [hROW,Array.size_append,Array.size_append,hzc,hzc,List.size_toArray,List.length_take]
    omega
   have hh : (w.drew.alloc (.cells ROW 47)).heap = w.heap.push (.cells ROW 47) := rfl
   have hcell0 : Cells (w.drew.alloc (.cells ROW 47)) w.heap.size 0 (cs.take (i * 4) ++ (Builtin.zeroCells (Value.agg #[.int .i64 0,.string ⟨#[]⟩,.string ⟨#[]⟩,.int .i64 0]).cells (n + 1 - i)).toList) := by
    have := cells_push hh
    have e : ROW.toList = (cs.take (i * 4) ++ (Builtin.zeroCells (Value.agg #[.int .i64 0,.string ⟨#[]⟩,.string ⟨#[]⟩,.int .i64 0]).cells (n + 1 - i)).toList) ++ (Builtin.zeroCells (Value.agg #[.int .i64 0,.string ⟨#[]⟩,.string ⟨#[]⟩,.int .i64 0]).cells (G - (n + 1))).toList := by rw [hROW]; simp
    rw [e] at this
    exact this.left
   have hroomN : Room (w.drew.alloc (.cells ROW 47)) w.heap.size (G * 4) := by rw [← hRs]; exact room_push hh
   have hT : Turned b w (w.drew.alloc (.cells ROW 47)) := ((Turned.refl b w).drew).alloc _
   obtain ⟨W1,hW1⟩ : ∃ W1,W1 = w.drew.alloc (.cells ROW 47) := ⟨_,rfl⟩
   have hW1s : W1.heap.size = w.heap.size + 1 := by rw [hW1,hh]; simp
   rw [← hW1] at hrz hcell0 hroomN hT
   have hxW : Cells W1 va vo xs := hc.of_block (hT.block va hva hne)
   have hcW : Cells W1 b o cs := fun j v hj => by
    have : W1.heap[b]? = w.heap[b]? := by rw [hW1,hh,Array.getElem?_push_lt hbw,Array.getElem?_eq_getElem hbw]
    have h := hcs j v hj
    simp only [World.cell?,this] at h ⊢
    exact h
   have hcpA : ∀ ty dc,(Builtin.copy_ #[44,44] ty #[.slice (some ⟨w.heap.size,i * 4,none⟩) (n + 1 - i) dc,.slice (some ⟨va,vo,none⟩) 1 vc]).run Tryz.prog W1 = .ok (goInt 1) (W1.setCells w.heap.size (i * 4) xs) := fun ty dc =>
    run_copy_cellsZ W1 _ _ ty 47 w.heap.size (i * 4) (n + 1 - i) dc ⟨va,vo,none⟩ 1 vc xs 4 1 Tryz.underlying44 hszm (by simp only [Nat.min_def]; split <;> omega) (by omega)
     (fun j v hj => by rw [World.cell?_add]; exact hxW j v hj) (fun j hj => (hroomN.cell (by omega)).1) (fun j hj => (hroomN.cell (by omega)).2) h1
   obtain ⟨W2,hW2⟩ : ∃ W2,W2 = (W1.setCells w.heap.size (i * 4) xs).drew := ⟨_,rfl⟩
   have hT2 : Turned b w W2 := by rw [hW2]; exact (hT.setCells (.inr (Nat.le_refl _)) _ _).drew
   have hroom2 : Room W2 w.heap.size (G * 4) := by rw [hW2]; exact room_setCells (b := w.heap.size) xs (i * 4) W1 hroomN
   have hcW2 : Cells W2 b o cs := by
    have : W2.heap[b]? = W1.heap[b]? := by rw [hW2]; exact setCells_block _ _ _ _ _ (by omega)
    exact hcW.of_block this
   have hcpB : ∀ ty dc sc,(Builtin.copy_ #[44,44] ty #[.slice (some ⟨w.heap.size,(i + 1) * 4,none⟩) (n + 1 - (i + 1)) dc,.slice (some ⟨b,o + i * 4,none⟩) (n - i) sc]).run Tryz.prog W2 = .ok (goInt ((n - i : Nat) : Int)) (W2.setCells w.heap.size ((i + 1) * 4) (cs.drop (i * 4))) := fun ty dc sc =>
    run_copy_cellsZ W2 _ _ ty 47 w.heap.size ((i + 1) * 4) (n + 1 - (i + 1)) dc ⟨b,o + i * 4,none⟩ (n - i) sc (cs.drop (i * 4)) 4 (n - i) Tryz.underlying44 hszm (by simp only [Nat.min_def]; split <;> omega) hdl
     (fun j v hj => by
       rw [World.cell?_add]
       have := (hcW2.drop (i * 4)) j v hj
       exact this) (fun j hj => (hroom2.cell (by omega)).1) (fun j hj => (hroom2.cell (by omega)).2) h1d
   have hGi : ¬ (G = i) := by omega
   have hGi1 : ¬ (G = i + 1) := by omega
   have hci : ¬ (c = i) := by omega
   have hb3 : (i : Int) ≤ (n : Int) := by omega
   have hw1 : IntKind.i64.wrap ((i : Int) + 1) = (i : Int) + 1 := by rw [IntKind.wrap_i64]; omega
   have fin : Cells (W2.setCells w.heap.size ((i + 1) * 4) (cs.drop (i * 4))) w.heap.size 0 (cs.take (i * 4) ++ xs ++ cs.drop (i * 4)) := by
    have := new_place (w := W1) hlt hl hx (by rw [Array.length_toList,hzc]) hcell0 hroomN (by omega)
    rw [hW2,← drew_setCells]
    intro j v hj
    exact this j v hj
   have finT : Turned b w (W2.setCells w.heap.size ((i + 1) * 4) (cs.drop (i * 4))) := hT2.setCells (.inr (Nat.le_refl _)) _ _
   have finR : Room (W2.setCells w.heap.size ((i + 1) * 4) (cs.drop (i * 4))) w.heap.size (0 + G * 4) := by rw [Nat.zero_add]; exact room_setCells _ _ _ hroom2
   have finS : w.heap.size < (W2.setCells w.heap.size ((i + 1) * 4) (cs.drop (i * 4))).heap.size := by
    rw [setCells_size,hW2]
    show w.heap.size < (W1.setCells w.heap.size (i * 4) xs).heap.size
    rw [setCells_size,hW1s]; omega
   subst hW2
   clear hkk hik hold hROW hG hRs hW1 hh hcell0 hroomN hroom2 hcW hcW2 hxW hzc
   go_enter Tryz.func58,Tryz.ntmps58
   go_wp2_with (first
    | (at_builtin; refine Go.Lib.wpList_append_run _ rfl _ _ _ _ rfl _ _ rfl rfl _ _ hrz ?_)
    | (at_builtin; refine wpList_copy_runI _ rfl _ _ 44 44 rfl _ _ rfl rfl (hcpA _ _) ?_))
   have mixed : Tryz.prog.follows .mixedOrders = true := by kernel_rfl
   go_region_law_o (refine step_copy_runI rfl _ _ 44 44 rfl (.slice (some ⟨w.heap.size,(i + 1) * 4,none⟩) (n + 1 - (i + 1)) (G - (i + 1))) (.slice (some ⟨b,o + i * 4,none⟩) (n - i) (c - i)) (by simp [Act.eval,Act.put]) (by simp [Act.eval,Act.put]) (hcpB 3 (G - (i + 1)) (c - i)) ?_)
   go_wp2
   go_ret
   exact ⟨w.heap.size,0,G,rfl,hGn,.inr ⟨Nat.le_refl _,finS⟩,fin,finR,finT⟩
 ·obtain rfl : i = n := by omega
  obtain ⟨b',o',cp,w1,hrun,q1,q2,q3,q4,q5⟩ := ins_end (vc := vc) Tryz.underlying44 hi hsz hz0 rfl (by rw [hby]; decide) hnc hn hl hcs hr hx hc h1 44
  go_enter Tryz.func58,Tryz.ntmps58
  go_wp2_with (first | (at_builtin; refine Go.Lib.wpList_append_run _ rfl _ _ _ _ rfl _ _ rfl rfl _ _ hrun ?_) | fail)
  all_goals go_ret
  all_goals refine ⟨b',o',cp,rfl,q1,q2,?_,q4,q5⟩
  all_goals (rw [List.take_of_length_le (by omega),List.drop_eq_nil_of_le (by omega),List.append_nil]; exact q3)⟩
end
theorem ok_slices_Insert___impl_Entry_impl_Entry_ : FOk Tryz.prog phi 620 slices_Insert___impl_Entry_impl_Entry__c := insert_ok (E := T_Entry) (by kernel_rfl) (by kernel_rfl) (by decide) ins58_walk (by kernel_rfl)
theorem ok_impl_AddEntry : FOk Tryz.prog phi 214 impl_AddEntry_c := fn_ok hm (D := impl_AddEntry_D) (DOk.cons ok_impl_ValidBook (DOk.cons ok_impl_clone_impl_Entry_ (DOk.cons ok_slices_Insert___impl_Entry_impl_Entry_ (DOk.cons ok_impl_Entry_valid DOk.nil)))) (by kernel_rfl) _ _ _ _
theorem ok_impl_LowestOf : FOk Tryz.prog phi 211 impl_LowestOf_c := fn_ok hm (D := impl_LowestOf_D) (DOk.cons ok_impl_IsName (DOk.cons ok_impl_ValidBook (DOk.cons ok_impl_Entry_change DOk.nil))) (by kernel_rfl) _ _ _ _
theorem ok_impl_FirstBelow : FOk Tryz.prog phi 210 impl_FirstBelow_c := fn_ok hm (D := impl_FirstBelow_D) (DOk.cons ok_impl_IsName (DOk.cons ok_impl_ValidBook (DOk.cons ok_impl_Entry_change DOk.nil))) (by kernel_rfl) _ _ _ _
theorem ok_impl_at : FOk Tryz.prog phi 4 impl_at_c := fn_ok hm (D := impl_at_D) DOk.nil (by kernel_rfl) _ _ _ _
theorem ok_impl_Reversed : FOk Tryz.prog phi 209 impl_Reversed_c := fn_ok hm (D := impl_Reversed_D) (DOk.cons ok_impl_at (DOk.cons ok_impl_ValidBook (DOk.cons ok_impl_isRentDay DOk.nil))) (by kernel_rfl) _ _ _ _
theorem ok_strconv_FormatInt : FOk Tryz.prog phi 864 strconv_FormatInt_c := formatInt_ok Tryz.laysM173 ⟨3,by kernel_rfl⟩ (by kernel_rfl)
theorem ok_impl_Decimal : FOk Tryz.prog phi 524 impl_Decimal_c := fn_ok hm (D := impl_Decimal_D) (DOk.cons ok_strconv_FormatInt DOk.nil) (by kernel_rfl) _ _ _ _
theorem ok_impl_EntryText : FOk Tryz.prog phi 207 impl_EntryText_c := fn_ok hm (D := impl_EntryText_D) (DOk.cons ok_impl_Decimal (DOk.cons ok_impl_Entry_valid DOk.nil)) (by kernel_rfl) _ _ _ _
theorem ok_strings_Split : FOk Tryz.prog phi 683 strings_Split_c := split_ok Tryz.laysM146 (of_decide_eq_true (by kernel_rfl)) (by kernel_rfl)
theorem ok_impl_SplitWords : FOk Tryz.prog phi 458 impl_SplitWords_c := fn_ok hm (D := impl_SplitWords_D) (DOk.cons ok_strings_Split DOk.nil) (by kernel_rfl) _ _ _ _
section
open Go.Lib
theorem rd_long (s : ByteArray) (w : World) (hl : 18 < (Lib.trimPrefix s.data.toList [45]).length) :
 Calls Tryz.prog 64 #[.string s] w fun e w' => e = .returned (.tuple #[.int .i64 0,.bool false]) ∧ Below w.heap.size w w' := by
 go_enter Tryz.func64,Tryz.ntmps64
 go_wp2_with (go_at_call 89; refine (Tryz.strings_TrimPrefix _ _ _).mono ?_; rintro e w' ⟨rfl,rfl⟩)
 all_goals first
  | (exfalso; omega)
  | (go_ret2; exact ⟨rfl,Below.refl _ _⟩)
theorem rd_bad (s : ByteArray) (w : World) (hl : ¬ 18 < (Lib.trimPrefix s.data.toList [45]).length) (m : Int) (u : TypeId) (hP : Calls Tryz.prog 90 #[.string s,.int .i64 10,.int .i64 64] w fun e w' => ∃ x,e = .returned (.tuple #[.int .i64 m,.iface u x]) ∧ Below w.heap.size w w') :
 Calls Tryz.prog 64 #[.string s] w fun e w' => e = .returned (.tuple #[.int .i64 0,.bool false]) ∧ Below w.heap.size w w' := by
 go_enter Tryz.func64,Tryz.ntmps64
 go_wp2_with (first | (go_at_call 89; refine (Tryz.strings_TrimPrefix _ _ _).mono ?_; rintro e w' ⟨rfl,rfl⟩) | (go_at_call 90; refine hP.mono ?_; rintro e w1 ⟨x,rfl,hw1⟩))
 all_goals first
  | (exfalso; omega)
  | (go_ret2; exact ⟨rfl,hw1⟩)
theorem rd_ok (s : ByteArray) (w : World) (hl : ¬ 18 < (Lib.trimPrefix s.data.toList [45]).length) (v : Int) (hs : Lib.itoa v = s.data.toList) (hP : Calls Tryz.prog 90 #[.string s,.int .i64 10,.int .i64 64] w fun e w' => e = .returned (.tuple #[.int .i64 v,.nilIface]) ∧ Below w.heap.size w w')
 (hF : ∀ w',Below w.heap.size w w' → Calls Tryz.prog 92 #[.int .i64 v,.int .i64 10] w' fun e w'' => e = .returned (.string ⟨(Lib.itoa v).toArray⟩) ∧ Below w'.heap.size w' w'') :
 Calls Tryz.prog 64 #[.string s] w fun e w' => e = .returned (.tuple #[.int .i64 v,.bool true]) ∧ Below w.heap.size w w' := by
 have HS := Lib.hid hs; clear hs
 go_enter Tryz.func64,Tryz.ntmps64
 go_wp2_with (first | (go_at_call 89; refine (Tryz.strings_TrimPrefix _ _ _).mono ?_; rintro e w' ⟨rfl,rfl⟩) | (go_at_call 90; refine hP.mono ?_; rintro e w1 ⟨rfl,hw1⟩) | (go_at_call 92; refine (hF _ hw1).mono ?_; rintro e w2 ⟨rfl,hw2⟩) | go_in)
 all_goals first
  | (exfalso; omega)
  | skip
 ·rename_i h
  exfalso
  rw [HS.out] at h
  simp [Lib.toList_data] at h
 ·go_ret2; exact ⟨rfl,hw1.trans (hw2.mono hw1.size)⟩
theorem rd_no (s : ByteArray) (w : World) (hl : ¬ 18 < (Lib.trimPrefix s.data.toList [45]).length) (v : Int) (hs : Lib.itoa v ≠ s.data.toList) (hP : Calls Tryz.prog 90 #[.string s,.int .i64 10,.int .i64 64] w fun e w' => e = .returned (.tuple #[.int .i64 v,.nilIface]) ∧ Below w.heap.size w w')
 (hF : ∀ w',Below w.heap.size w w' → Calls Tryz.prog 92 #[.int .i64 v,.int .i64 10] w' fun e w'' => e = .returned (.string ⟨(Lib.itoa v).toArray⟩) ∧ Below w'.heap.size w' w'') :
 Calls Tryz.prog 64 #[.string s] w fun e w' => e = .returned (.tuple #[.int .i64 0,.bool false]) ∧ Below w.heap.size w w' := by
 have HS := Lib.hid hs; clear hs
 go_enter Tryz.func64,Tryz.ntmps64
 go_wp2_with (first | (go_at_call 89; refine (Tryz.strings_TrimPrefix _ _ _).mono ?_; rintro e w' ⟨rfl,rfl⟩) | (go_at_call 90; refine hP.mono ?_; rintro e w1 ⟨rfl,hw1⟩) | (go_at_call 92; refine (hF _ hw1).mono ?_; rintro e w2 ⟨rfl,hw2⟩) | go_in)
 all_goals first
  | (exfalso; omega)
  | skip
 ·go_ret2; exact ⟨rfl,hw1.trans (hw2.mono hw1.size)⟩
 ·rename_i h
  exfalso
  apply HS.out
  simpa [Lib.toList_data] using h
end
theorem rd_walk : RdWalk Tryz.prog 64 90 92 := ⟨⟨_,Tryz.func64,by decide +kernel,rfl⟩,rd_long,rd_bad,rd_ok,rd_no⟩
theorem ok_impl_ReadDecimal : FOk Tryz.prog phi 522 impl_ReadDecimal_c := readDecimal_ok Tryz.laysC174 Tryz.laysM173 ⟨3,by kernel_rfl⟩ (by kernel_rfl) (by kernel_rfl) rd_walk (by kernel_rfl)
theorem ok_strings_Cut : FOk Tryz.prog phi 523 strings_Cut_c := cut_ok Tryz.laysM145 (of_decide_eq_true (by kernel_rfl)) (by kernel_rfl)
theorem ok_impl_ReadEntry : FOk Tryz.prog phi 208 impl_ReadEntry_c := fn_ok hm (D := impl_ReadEntry_D) (DOk.cons ok_impl_EntryText (DOk.cons ok_impl_SplitWords (DOk.cons ok_impl_ReadDecimal (DOk.cons ok_strings_Cut DOk.nil)))) (by kernel_rfl) _ _ _ _
theorem ok_impl_FlowBetween : FOk Tryz.prog phi 206 impl_FlowBetween_c := fn_ok hm (D := impl_FlowBetween_D) (DOk.cons ok_impl_IsName (DOk.cons ok_impl_ValidBook DOk.nil)) (by kernel_rfl) _ _ _ _
theorem ok_impl_PairsOf : FOk Tryz.prog phi 205 impl_PairsOf_c := fn_ok hm (D := impl_PairsOf_D) (DOk.cons ok_impl_ValidBook DOk.nil) (by kernel_rfl) _ _ _ _
theorem ok_laws_r8At : FOk Tryz.prog phi 151 laws_r8At_c := fn_ok hm (D := laws_r8At_D) DOk.nil (by kernel_rfl) _ _ _ _
theorem ok_impl_debtsCode : FOk Tryz.prog phi 625 impl_debtsCode_c := fn_ok hm (D := impl_debtsCode_D) (DOk.cons ok_impl_few (DOk.cons ok_impl_within (DOk.cons ok_impl_IsName DOk.nil))) (by kernel_rfl) _ _ _ _
theorem ok_impl_clone_int64_ : FOk Tryz.prog phi 624 impl_clone_int64__c := fn_ok hm (D := impl_clone_int64__D) DOk.nil (by kernel_rfl) _ _ _ _
theorem ok_impl_SettleDebts : FOk Tryz.prog phi 204 impl_SettleDebts_c := fn_ok hm (D := impl_SettleDebts_D) (DOk.cons ok_impl_clone_int64_ (DOk.cons ok_impl_debtsCode DOk.nil)) (by kernel_rfl) _ _ _ _
theorem ok_laws_FnBooks : FOk Tryz.prog phi 1266 laws_FnBooks_c := fn_ok hm (D := laws_FnBooks_D) (DOk.cons ok_laws_r8Long (DOk.cons ok_laws_r8At (DOk.cons ok_impl_SettleDebts (DOk.cons ok_impl_PairsOf (DOk.cons ok_impl_FlowBetween (DOk.cons ok_impl_EntryText (DOk.cons ok_impl_ReadEntry (DOk.cons ok_impl_Reversed (DOk.cons ok_impl_FirstBelow (DOk.cons ok_impl_LowestOf (DOk.cons ok_impl_AccountOf (DOk.cons ok_impl_ValidBook (DOk.cons ok_impl_AddEntry (DOk.cons ok_impl_TrialBalance (DOk.cons ok_spec_R8Entry (DOk.cons ok_spec_R8Book DOk.nil)))))))))))))))) (by kernel_rfl) _ _ _ _
theorem law : ∀ x,wfU laws_FnBooks_c.ps x → ∃ y,laws_FnBooks_c.f x = some y ∧ resA laws_FnBooks_c y = ([A.bool true],[]) := fun x hx => ⟨true,(laws_FnBooks_true x.1 x.2.1 hx.1 hx.2.1),rfl⟩
theorem own : ownKnob Tryz.prog.godebug = none := by kernel_rfl
theorem laid : laidOutB Tryz.prog = true := by kernel_rfl
theorem reads : ∀ t ∈ Tryz.f4.params.toList,Tryz.prog.readableRec t = true ∧ t < Tryz.prog.types.size := by
 have h : (Tryz.f4.params.toList.all fun t => Tryz.prog.readableRec t && decide (t < Tryz.prog.types.size)) = true := by kernel_rfl
 intro t ht
 have := List.all_eq_true.1 h t ht
 simpa only [Bool.and_eq_true,decide_eq_true_eq] using this
theorem spec_eq (H : Type) : ∀ (ds : List (DataW H)),ds.length = Tryz.f4.params.toList.length → Rows.fnBooksSpec.fn H ds = { results := [.lit (.bool true)],args := ds } := by
 intro ds hd
 have hd : ds.length = 2 := hd
 match ds,hd with
 | [d0,d1],_ => rfl
theorem tab (W : World) (hL : laidMetH Tryz.prog Rows.fnBooksRow.laid W) : ∀ i,Tryz.prog.globalNamed pow10Name = some i → Lib.TabIs Tryz.prog W pow10Name .u64 Lib.pow10Tab := by
 intro i hi
 have hp : (Rows.fnBooksRow.laid.all fun x => x.2.handleName?.isNone) = true := by kernel_rfl
 rw [MakeChecks.laidMetH_plain _ _ _ hp] at hL
 have h1 : laidMet Tryz.prog (("internal/strconv.uint64pow10",Rows.laid_internal_strconv_uint64pow10) :: [("unicode/utf8.acceptRanges",Rows.laid_unicode_utf8_acceptRanges),("strconv.ErrRange",Rows.laid_strconv_ErrRange),("strconv.ErrSyntax",Rows.laid_strconv_ErrSyntax),("unicode/utf8.first",Rows.laid_unicode_utf8_first)]) W := (laidMet.tail (laidMet.tail hL))
 have e : (Rows.laid_internal_strconv_uint64pow10 : DataW Unit) = Lib.tabData .u64 Lib.pow10Tab := by kernel_rfl
 rw [e] at h1
 exact Lib.tabIs_of_head (t := 197) (e := 111) (n := 20) hi (by obtain rfl := Option.some.inj ((show Tryz.prog.globalNamed pow10Name = some 3 by kernel_rfl).symm.trans hi); kernel_rfl) (by kernel_rfl) (by kernel_rfl) (by kernel_rfl) (by kernel_rfl) h1
theorem errs (W : World) (hL : laidMetH Tryz.prog Rows.fnBooksRow.laid W) : ∀ n,errNames.contains n = true → ∀ i,Tryz.prog.globalNamed n = some i → ∃ u v,W.var? Tryz.prog n = some #[.iface u v] := by
 intro n hn i hi
 have hn : n = "strconv.ErrSyntax" ∨ n = "strconv.ErrRange" := by simpa [errNames] using hn
 have hp : (Rows.fnBooksRow.laid.all fun x => x.2.handleName?.isNone) = true := by kernel_rfl
 rw [MakeChecks.laidMetH_plain _ _ _ hp] at hL
 rcases hn with rfl | rfl
 ·have h1 : laidMet Tryz.prog (("strconv.ErrSyntax",Rows.laid_strconv_ErrSyntax) :: [("unicode/utf8.first",Rows.laid_unicode_utf8_first)]) W := (laidMet.tail (laidMet.tail (laidMet.tail (laidMet.tail (laidMet.tail hL)))))
  exact laid_iface (ti := 132) h1 ⟨_,_,rfl⟩ hi (by obtain rfl := Option.some.inj ((show Tryz.prog.globalNamed "strconv.ErrSyntax" = some 1 by kernel_rfl).symm.trans hi); kernel_rfl) Tryz.underlying132
 ·have h1 : laidMet Tryz.prog (("strconv.ErrRange",Rows.laid_strconv_ErrRange) :: [("strconv.ErrSyntax",Rows.laid_strconv_ErrSyntax),("unicode/utf8.first",Rows.laid_unicode_utf8_first)]) W := (laidMet.tail (laidMet.tail (laidMet.tail (laidMet.tail hL))))
  exact laid_iface (ti := 132) h1 ⟨_,_,rfl⟩ hi (by obtain rfl := Option.some.inj ((show Tryz.prog.globalNamed "strconv.ErrRange" = some 2 by kernel_rfl).symm.trans hi); kernel_rfl) Tryz.underlying132
theorem contract (H : Type) (enc : TypeId × Value → H) (W : World) (base : Nat) (args : Array Value) (ds gs : List (DataW H)) (before : List MemPlace)
 (hval : ∀ (j : Nat) t v,Tryz.f4.params[j]? = some t → args[j]? = some v → Value.okWide Tryz.prog W .any base t v)
 (hW : DataW.Whole enc Tryz.prog Tryz.f4.params.toList Rows.fnBooksSpec.vars false W args.toList ds gs before) (hL : laidMetH Tryz.prog Rows.fnBooksRow.laid W) (hsh : W.ShapedOpen Tryz.prog) :
 Calls Tryz.prog 4 args W fun e W' => ∃ v,e = .returned v ∧ Rows.fnBooksSpec.post enc Tryz.prog Tryz.f4 false true false false W args v W' :=
 row_contract (φ := phi) (g := 1266) (n := 20) ok_laws_FnBooks rfl rfl (tb := 4) Tryz.underlying4 (by kernel_rfl) rfl law laid reads spec_eq W base args ds gs before hval hW (Glob.start hsh (tab W hL) (errs W hL))
theorem lifted (os : Os) (started : os.Started) (H : Type) (enc : TypeId × Value → H) :
 ReturnsInHanded {} Tryz.checked os 4 .any (fun w args => (Rows.fnBooksSpec.pre enc Tryz.prog Tryz.f4 Rows.fnBooksRow.domain false w args ∧ laidMetH Tryz.prog Rows.fnBooksRow.laid w) ∧ sizedMet enc Tryz.prog Tryz.f4 (OpenSpec.ofChange Rows.fnBooksSpec) false w args) (Rows.fnBooksSpec.post enc Tryz.prog Tryz.f4 false true false false) := by
 refine returnsInHanded_laid (C := Tryz.checked) (laid := Rows.fnBooksRow.laid) own started (by kernel_rfl) Tryz.func4
  (ChangeSpec.witness_shaped (enc := enc) (C := Tryz.checked) (os := os) (X := fun w _ => laidMetH Tryz.prog Rows.fnBooksRow.laid w) false (World.laidAll Tryz.prog os Rows.fnBooksRow.laid) #[.slice none 0 0,.slice none 0 0] 12 (World.laidAll_os _ _ _)
    (World.shaped_of_ZipB (by kernel_rfl) (by kernel_rfl)) (by kernel_rfl) (by kernel_rfl) (by kernel_rfl)
    (by rw [MakeChecks.laidMetH_plain _ _ _ (by kernel_rfl)]; exact laidMet_laidAll _ (by kernel_rfl) (by kernel_rfl))) ?_
 intro W base args ds gs before hval hW hL hsh
 exact contract H enc W base args ds gs before hval hW hL hsh
theorem over : Rows.fnBooksRow.holds Tryz.pinned (OpenSpec.ofChange Rows.fnBooksSpec) :=
 OpenClaim.holds_of_wide 4 Tryz.f4 rfl rfl rfl rfl rfl rfl rfl ⟨rfl,rfl,rfl,rfl,rfl⟩ rfl rfl rfl rfl rfl (by kernel_rfl) Tryz.func4 (by kernel_rfl)
  (of_decide_eq_true (by kernel_rfl)) (by unfold Func.isWrapper; first | (rw [if_pos (by decide +kernel)]; kernel_rfl) | (rw [if_neg (by decide +kernel)]; exact ⟨rfl,rfl⟩))
  (fun os started H enc _ => lifted os started H enc)
theorem card : Rows.FnBooksCardSaid :=
 Claim7.holds_tied_plain_at .later [] [.data,.data,.data,.data,.sentinel,.sentinel,.pinned] true (true,"32c5838fc076682accb11d2a0c400a7486063932c435185be8c55696cf16863e") true over (fun _ h => by cases h) (by kernel_rfl) (fun _ h => by cases h) fnBooks_row_tie rfl ⟨rfl,rfl⟩ (by kernel_rfl) rfl
  (fun f fn hf hfn => by
    obtain rfl : f = 4 := Option.some.inj ((show Tryz.prog.funcNamed "loop.example/g01061/laws.FnBooks" = some 4 by kernel_rfl).symm.trans hf) |>.symm
    obtain rfl : fn = Tryz.f4 := (Option.some.inj (Tryz.func4.symm.trans hfn)).symm
    exact ⟨by kernel_rfl,fun j t ht => by
     have hm : t ∈ Tryz.f4.params.toList := by simpa using Array.mem_of_getElem? ht
     have hall : (Tryz.f4.params.toList.all fun u => !Tryz.prog.wantsStandIn u) = true := by kernel_rfl
     exact (show Tryz.prog.wantsStandIn t = false by simpa using List.all_eq_true.1 hall t hm)⟩)
  (by kernel_rfl)
theorem proved : Rows.FnBooksCardSaid := card
end Go.Proofs.YtfmleilgdgmpeaaGreatDoor.fnBooks
