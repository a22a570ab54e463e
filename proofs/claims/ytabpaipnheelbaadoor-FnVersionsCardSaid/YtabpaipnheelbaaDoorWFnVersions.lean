/- The law FnVersions answers true for every input, whatever it is, and leaves its arguments as they were. Conditions: none. -/
import Derived.Test.YtabpaipnheelbaaDoorQFnVersions
import Derived.Test.YtabpaipnheelbaaDoorRows
import Derived.Test.YtabpaipnheelbaaDoorL5
import Derived.Test.YtabpaipnheelbaaDoorLD
import Derived.Carry
import Derived.Deep.RegionHeld3
import Derived.Deep.RegionLaw
import Derived.Shelf.RegionOpenPlain
import Derived.Shelf.Spec.SlicesInsert
import Derived.Test.YtabpaipnheelbaaDoorShelf
import Derived.Test.YtabpaipnheelbaaDoorCards
import Derived.Test.YtabpaipnheelbaaDoorTie
import Derived.LaidMore
import Derived.Lay
import Derived.SevenTiedAt
import Derived.Stop.Joined
import Derived.WalkKit
import Derived.ProofKit
import Derived.OpenShut
import Derived.JoinedOf
import Derived.Handed
set_option linter.unusedVariables false
set_option maxRecDepth 100000
namespace Go.Proofs.YtabpaipnheelbaaDoor.fnVersions
open Go.Ab Go.Ab.P
open Go.ChangeShapes Go.WideShapes Go.ChangeAt Go.RowKit
def phiL : List (Nat × Nat) := [(89,4),(441,20),(847,60),(463,42),(642,44),(686,22),(926,45),(925,46),(687,23),(557,43),(685,21),(277,5),(276,6),(275,7),(22,61),(21,47),(24,49),(23,26),(692,27),(689,24),(927,48),(688,25),(274,8),(691,28),(928,50),(929,51),(690,29),(273,9),(693,30),(266,10),(151,11),(697,32),(696,31),(4,52),(695,33),(930,53),(694,34),(272,12),(864,54),(524,35),(698,36),(271,13),(699,37),(270,14),(700,39),(1267,55),(1268,38),(269,15),(1043,65),(932,56),(702,40),(268,16),(77,17),(1,57),(933,58),(11,79),(12,80),(13,72),(936,66),(706,59),(703,41),(267,18),(265,19),(1278,3)]
def phi (n : Nat) : Nat := (phiL.lookup n).getD 1000000
theorem hm : Tryd.prog.follows .mixedOrders = true := by kernel_rfl
theorem ok_laws_r8Long : FOk Tryd.prog phi 89 laws_r8Long_c := fn_ok hm (D := laws_r8Long_D) DOk.nil (by kernel_rfl) _ _ _ _
theorem ok_spec_l00From : FOk Tryd.prog phi 441 spec_l00From_c := fn_ok hm (D := spec_l00From_D) DOk.nil (by kernel_rfl) _ _ _ _
theorem ok_spec_l00Src_next : FOk Tryd.prog phi 847 spec_l00Src_next_c := fn_ok hm (D := spec_l00Src_next_D) DOk.nil (by kernel_rfl) _ _ _ _
theorem ok_spec_l00Src_pick : FOk Tryd.prog phi 463 spec_l00Src_pick_c := fn_ok hm (D := spec_l00Src_pick_D) (DOk.cons ok_spec_l00Src_next DOk.nil) (by kernel_rfl) _ _ _ _
theorem ok_spec_l00Src_one : FOk Tryd.prog phi 642 spec_l00Src_one_c := fn_ok hm (D := spec_l00Src_one_D) (DOk.cons ok_spec_l00Src_pick DOk.nil) (by kernel_rfl) _ _ _ _
theorem ok_spec_l27DrawState : FOk Tryd.prog phi 686 spec_l27DrawState_c := fn_ok hm (D := spec_l27DrawState_D) (DOk.cons ok_spec_l00Src_pick (DOk.cons ok_spec_l00Src_one DOk.nil)) (by kernel_rfl) _ _ _ _
theorem ok_spec_l27At : FOk Tryd.prog phi 926 spec_l27At_c := fn_ok hm (D := spec_l27At_D) DOk.nil (by kernel_rfl) _ _ _ _
theorem ok_spec_l27Set : FOk Tryd.prog phi 925 spec_l27Set_c := fn_ok hm (D := spec_l27Set_D) DOk.nil (by kernel_rfl) _ _ _ _
theorem ok_spec_l27Changed : FOk Tryd.prog phi 687 spec_l27Changed_c := fn_ok hm (D := spec_l27Changed_D) (DOk.cons ok_spec_l00Src_pick (DOk.cons ok_spec_l00Src_one (DOk.cons ok_spec_l27Set (DOk.cons ok_spec_l27At DOk.nil)))) (by kernel_rfl) _ _ _ _
theorem ok_spec_l00Src_text : FOk Tryd.prog phi 557 spec_l00Src_text_c := fn_ok hm (D := spec_l00Src_text_D) (DOk.cons ok_spec_l00Src_pick DOk.nil) (by kernel_rfl) _ _ _ _
theorem ok_spec_l27Draw : FOk Tryd.prog phi 685 spec_l27Draw_c := fn_ok hm (D := spec_l27Draw_D) (DOk.cons ok_spec_l00Src_pick (DOk.cons ok_spec_l00Src_text (DOk.cons ok_spec_l27DrawState (DOk.cons ok_spec_l27Changed DOk.nil)))) (by kernel_rfl) _ _ _ _
theorem ok_spec_R8History : FOk Tryd.prog phi 277 spec_R8History_c := fn_ok hm (D := spec_R8History_D) (DOk.cons ok_spec_l00From (DOk.cons ok_spec_l27Draw DOk.nil)) (by kernel_rfl) _ _ _ _
theorem ok_spec_R8State : FOk Tryd.prog phi 276 spec_R8State_c := fn_ok hm (D := spec_R8State_D) (DOk.cons ok_spec_l00From (DOk.cons ok_spec_l27DrawState DOk.nil)) (by kernel_rfl) _ _ _ _
theorem ok_spec_R8Changed : FOk Tryd.prog phi 275 spec_R8Changed_c := fn_ok hm (D := spec_R8Changed_D) (DOk.cons ok_spec_l00From (DOk.cons ok_spec_l27Changed DOk.nil)) (by kernel_rfl) _ _ _ _
theorem ok_impl_isDigit : FOk Tryd.prog phi 22 impl_isDigit_c := fn_ok hm (D := impl_isDigit_D) DOk.nil (by kernel_rfl) _ _ _ _
theorem ok_impl_few : FOk Tryd.prog phi 21 impl_few_c := fn_ok hm (D := impl_few_D) DOk.nil (by kernel_rfl) _ _ _ _
theorem ok_impl_IsName : FOk Tryd.prog phi 24 impl_IsName_c := fn_ok hm (D := impl_IsName_D) (DOk.cons ok_impl_few (DOk.cons ok_impl_isDigit DOk.nil)) (by kernel_rfl) _ _ _ _
theorem ok_impl_within : FOk Tryd.prog phi 23 impl_within_c := fn_ok hm (D := impl_within_D) DOk.nil (by kernel_rfl) _ _ _ _
theorem ok_impl_Setting_valid : FOk Tryd.prog phi 692 impl_Setting_valid_c := fn_ok hm (D := impl_Setting_valid_D) (DOk.cons ok_impl_within (DOk.cons ok_impl_IsName DOk.nil)) (by kernel_rfl) _ _ _ _
theorem ok_impl_ValidState : FOk Tryd.prog phi 689 impl_ValidState_c := fn_ok hm (D := impl_ValidState_D) (DOk.cons ok_impl_few (DOk.cons ok_impl_Setting_valid DOk.nil)) (by kernel_rfl) _ _ _ _
theorem ok_impl_find : FOk Tryd.prog phi 927 impl_find_c := fn_ok hm (D := impl_find_D) DOk.nil (by kernel_rfl) _ _ _ _
theorem ok_impl_value : FOk Tryd.prog phi 688 impl_value_c := fn_ok hm (D := impl_value_D) (DOk.cons ok_impl_find DOk.nil) (by kernel_rfl) _ _ _ _
theorem ok_impl_DiffStates : FOk Tryd.prog phi 274 impl_DiffStates_c := fn_ok hm (D := impl_DiffStates_D) (DOk.cons ok_impl_value (DOk.cons ok_impl_ValidState DOk.nil)) (by kernel_rfl) _ _ _ _
theorem ok_impl_clone_impl_Setting_ : FOk Tryd.prog phi 691 impl_clone_impl_Setting__c := fn_ok hm (D := impl_clone_impl_Setting__D) DOk.nil (by kernel_rfl) _ _ _ _
section
open Go.Shelf Go.Proofs
theorem ins50_info : (Tryd.prog.info? 57).map (fun i => (i.zero,i.size,i.bytes)) = some (some (.agg #[.string ⟨#[]⟩,.int .i64 0]),2,24) := by kernel_rfl
set_option maxHeartbeats 3200000 in
theorem ins50_walk : InsertWalk Tryd.prog 50 2 := ⟨⟨_,Tryd.func50,by decide +kernel,rfl⟩,by
 intro ad va vo vc xs w hx hc h1 hva
 obtain ⟨i,hi,he⟩ := Option.map_eq_some_iff.1 ins50_info
 simp only [Prod.mk.injEq] at he
 obtain ⟨hz0,hsz,hby⟩ := he
 obtain ⟨cp,w1,hrun,q1,q2,q3,q4,q5⟩ := ins_nil (vc := vc) (ad := ad) Tryd.underlying26 hi hsz hz0 rfl (by rw [hby]; decide) hx hc h1 26
 go_enter Tryd.func50,Tryd.ntmps50
 go_wp2_with (first | (at_builtin; refine Go.Lib.wpList_append_run _ rfl _ _ _ _ rfl _ _ rfl rfl _ _ hrun ?_) | fail)
 go_ret
 exact ⟨_,cp,rfl,q1,Nat.le_refl _,q2,q3,q4,q5⟩,by
 intro b o n c i va vo vc cs xs w hc0 hnc hin hn hl hcs hr hx hc hne h1c h1 hva hsh
 obtain ⟨iE,hi,he⟩ := Option.map_eq_some_iff.1 ins50_info
 simp only [Prod.mk.injEq] at he
 obtain ⟨hz0,hsz,hby⟩ := he
 have hbw : b < w.heap.size := hr.lt
 rcases Nat.lt_or_ge i n with hlt | hge
 ·have hI : ¬ ((i : Int) = (n : Int)) := by omega
  have hszm : (Tryd.prog.info? 57).map (·.size) = some 2 := by rw [hi]; simp [hsz]
  have hzE : ∀ w,(Go.sizeOf 57).run Tryd.prog w = .ok 2 w := fun w => by simp [Go.sizeOf,typeInfo,hi,hsz]
  have hdl : (cs.drop (i * 2)).length = (n - i) * 2 := by rw [List.length_drop,hl]; omega
  have h1d : ∀ v ∈ cs.drop (i * 2),v.oneCell' = true := fun v hv => h1c v (List.mem_of_mem_drop hv)
  have hb1 : (0 : Int) ≤ (i : Int) + 1 := by omega
  have htn : ((i : Int) + 1).toNat = i + 1 := by omega
  by_cases hroom : n + 1 ≤ c
  ·obtain ⟨tA,kA,hsa,hkA⟩ := hsh
   obtain ⟨C,eC,frC,g1,g2,g3⟩ := id hr
   have hsb : w.shape? b = some (eC,C.size) := by simp [World.shape?,g1]
   have hov : ∀ lb cb,(callFunc 62 #[.slice (some ⟨va,vo,none⟩) 1 vc,.slice (some ⟨b,o + (i + 1) * 2,none⟩) lb cb]).run Tryd.prog w = .ok (.value (.bool false)) w := fun lb cb => by
    rw [run_callFunc_extern Tryd.func62 (by kernel_rfl) (by kernel_rfl) (by kernel_rfl) (e := Extern.SlicesOverlaps.overlaps #[26,26] #[4]) (by kernel_rfl),
     Go.Lib.run_overlaps_own w 26 4 57 Tryd.underlying26 2 hzE ⟨va,vo,none⟩ ⟨b,o + (i + 1) * 2,none⟩ 1 vc lb cb hne tA eC kA C.size hsa hsb hkA (g3 _ (.inl (by omega))) (g3 _ (.inr ⟨rfl,by decide⟩))]
    rfl
   have hcs0 : Cells w.drew b o cs := fun j v hj => hcs j v hj
   have hr0 : Room 2 w.drew b (o + c * 2) := hr
   have hcp1 : ∀ ty dc sc,(Builtin.copy_ #[26,26] ty #[.slice (some ⟨b,o + (i + 1) * 2,none⟩) (n - i) dc,.slice (some ⟨b,o + i * 2,none⟩) (n + 1 - i) sc]).run Tryd.prog w.drew = .ok (goInt ((n - i : Nat) : Int)) (w.drew.setCells b (o + (i + 1) * 2) (cs.drop (i * 2))) := fun ty dc sc =>
    run_copy_cellsZ w.drew _ _ ty 57 b (o + (i + 1) * 2) (n - i) dc ⟨b,o + i * 2,none⟩ (n + 1 - i) sc (cs.drop (i * 2)) 2 (n - i) Tryd.underlying26 hszm (by simp only [Nat.min_def]; split <;> omega) hdl
     (fun j v hj => by
       rw [World.cell?_add]
       exact (hcs0.drop (i * 2)) j v hj) (fun j hj => (hr0.cell (by omega)).1) (fun j hj => (hr0.cell (by omega)).2) h1d
   obtain ⟨W1,hW1⟩ : ∃ W1,W1 = w.drew.setCells b (o + (i + 1) * 2) (cs.drop (i * 2)) := ⟨_,rfl⟩
   have hT1 : Turned b w W1 := by rw [hW1]; exact ((Turned.refl b w).drew).setCells (.inl rfl) _ _
   have hr1 : Room 2 W1 b (o + c * 2) := by rw [hW1]; exact room_setCells _ _ _ hr0
   have hx1 : Cells W1 va vo xs := hc.of_block (hT1.block va hva hne)
   have hcp2 : ∀ ty dc,(Builtin.copy_ #[26,26] ty #[.slice (some ⟨b,o + i * 2,none⟩) (n + 1 - i) dc,.slice (some ⟨va,vo,none⟩) 1 vc]).run Tryd.prog W1 = .ok (goInt 1) (W1.setCells b (o + i * 2) xs) := fun ty dc =>
    run_copy_cellsZ W1 _ _ ty 57 b (o + i * 2) (n + 1 - i) dc ⟨va,vo,none⟩ 1 vc xs 2 1 Tryd.underlying26 hszm (by simp only [Nat.min_def]; split <;> omega) (by omega)
     (fun j v hj => by rw [World.cell?_add]; exact hx1 j v hj) (fun j hj => (hr1.cell (by omega)).1) (fun j hj => (hr1.cell (by omega)).2) h1
   have fin : Cells (W1.setCells b (o + i * 2) xs) b o (cs.take (i * 2) ++ xs ++ cs.drop (i * 2)) := by
    rw [hW1]
    exact ins_place hlt hroom hl hcs0 hr0 hx
   have finT : Turned b w (W1.setCells b (o + i * 2) xs) := hT1.setCells (.inl rfl) _ _
   have finR : Room 2 (W1.setCells b (o + i * 2) xs) b (o + c * 2) := room_setCells _ _ _ hr1
   have hngt : ¬ ((n : Int) + 1 > (c : Int)) := by omega
   have hci : ¬ (c = i) := by omega
   have hci1 : ¬ (c = i + 1) := by omega
   have hb3 : (i : Int) ≤ (n : Int) + 1 := by omega
   have hw1 : IntKind.i64.wrap ((i : Int) + 1) = (i : Int) + 1 := by rw [IntKind.wrap_i64]; omega
   have mixed : Tryd.prog.follows .mixedOrders = true := by kernel_rfl
   clear hcs0 hr0 hr1 hx1 hT1 g1 g2 g3 hsb hsa
   subst hW1
   go_enter Tryd.func50,Tryd.ntmps50
   go_wp2_with (simp only [hov])
   go_region_law_o (refine step_copy_runI rfl _ _ 26 26 rfl _ _ (by simp [Act.eval,Act.put]) (by simp [Act.eval,Act.put]) (hcp1 _ _ _) ?_)
   go_wp2_with (at_builtin; refine wpList_copy_runI _ rfl _ _ 26 26 rfl _ _ rfl rfl (hcp2 _ _) ?_)
   go_ret
   exact ⟨b,o,c,rfl,hroom,.inl rfl,fin,finR,finT⟩
  ·have hgt : (n : Int) + 1 > (c : Int) := by omega
   have hzc : ∀ k,(Builtin.zeroCells (Value.agg #[.string ⟨#[]⟩,.int .i64 0]).cells k).size = k * 2 := fun k => by rw [size_zeroCells]; rfl
   have hold : (Builtin.firstCells iE.size i (.slice (some ⟨b,o,none⟩) i c)).run Tryd.prog w.drew = .ok (cs.take (i * 2)).toArray w.drew := by
    rw [hsz]
    exact run_firstCells_some w.drew 2 i ⟨b,o,none⟩ i c (cs.take (i * 2)) (by rw [List.length_take]; omega) (fun j v hj => by
     rw [World.cell?_add]
     exact (hcs.take (i * 2)) j v hj)
   have hik : i + (n + 1 - i) = n + 1 := by omega
   have hkk : (n : Int) + 1 - (i : Int) = ((n + 1 - i : Nat) : Int) := by omega
   have hrz := Go.Lib.run_append_grow_zeros w 26 3 26 57 iE _ .i64 .i64 Tryd.underlying26 Tryd.underlying3 hi hz0 (some ⟨b,o,none⟩) i c (cs.take (i * 2)) hold (n + 1 - i) (by omega) (by omega) (by omega) (by omega) (by rw [hby]; omega) (by rw [hby,hik]; exact growslice_fits (by omega) (by omega))
   rw [hik,← hkk] at hrz
   obtain ⟨G,hG⟩ : ∃ G,G = grownCap w (n + 1) c 57 := ⟨_,rfl⟩
   have hGn : n + 1 ≤ G := by rw [hG]; exact grownCap_ge w _ _ _
   rw [← hG] at hrz
   obtain ⟨ROW,hROW⟩ : ∃ ROW : Array Value,ROW = (cs.take (i * 2)).toArray ++ Builtin.zeroCells (Value.agg #[.string ⟨#[]⟩,.int .i64 0]).cells (n + 1 - i) ++ Builtin.zeroCells (Value.agg #[.string ⟨#[]⟩,.int .i64 0]).cells (G - (n + 1)) := ⟨_,rfl⟩
   rw [← hROW] at hrz
   have hRs : ROW.size = G * 2 := by
    rw [hROW,Array.size_append,Array.size_append,hzc,hzc,List.size_toArray,List.length_take]
    omega
   have hh : (w.drew.alloc (.cells ROW 57)).heap = w.heap.push (.cells ROW 57) := rfl
   have hcell0 : Cells (w.drew.alloc (.cells ROW 57)) w.heap.size 0 (cs.take (i * 2) ++ (Builtin.zeroCells (Value.agg #[.string ⟨#[]⟩,.int .i64 0]).cells (n + 1 - i)).toList) := by
    have := cells_push hh
    have e : ROW.toList = (cs.take (i * 2) ++ (Builtin.zeroCells (Value.agg #[.string ⟨#[]⟩,.int .i64 0]).cells (n + 1 - i)).toList) ++ (Builtin.zeroCells (Value.agg #[.string ⟨#[]⟩,.int .i64 0]).cells (G - (n + 1))).toList := by rw [hROW]; simp
    rw [e] at this
    exact this.left
   have hroomN : Room 2 (w.drew.alloc (.cells ROW 57)) w.heap.size (G * 2) := by rw [← hRs]; exact room_push hh
   have hT : Turned b w (w.drew.alloc (.cells ROW 57)) := ((Turned.refl b w).drew).alloc _
   obtain ⟨W1,hW1⟩ : ∃ W1,W1 = w.drew.alloc (.cells ROW 57) := ⟨_,rfl⟩
   have hW1s : W1.heap.size = w.heap.size + 1 := by rw [hW1,hh]; simp
   rw [← hW1] at hrz hcell0 hroomN hT
   have hxW : Cells W1 va vo xs := hc.of_block (hT.block va hva hne)
   have hcW : Cells W1 b o cs := fun j v hj => by
    have : W1.heap[b]? = w.heap[b]? := by rw [hW1,hh,Array.getElem?_push_lt hbw,Array.getElem?_eq_getElem hbw]
    have h := hcs j v hj
    simp only [World.cell?,this] at h ⊢
    exact h
   have hcpA : ∀ ty dc,(Builtin.copy_ #[26,26] ty #[.slice (some ⟨w.heap.size,i * 2,none⟩) (n + 1 - i) dc,.slice (some ⟨va,vo,none⟩) 1 vc]).run Tryd.prog W1 = .ok (goInt 1) (W1.setCells w.heap.size (i * 2) xs) := fun ty dc =>
    run_copy_cellsZ W1 _ _ ty 57 w.heap.size (i * 2) (n + 1 - i) dc ⟨va,vo,none⟩ 1 vc xs 2 1 Tryd.underlying26 hszm (by simp only [Nat.min_def]; split <;> omega) (by omega)
     (fun j v hj => by rw [World.cell?_add]; exact hxW j v hj) (fun j hj => (hroomN.cell (by omega)).1) (fun j hj => (hroomN.cell (by omega)).2) h1
   obtain ⟨W2,hW2⟩ : ∃ W2,W2 = (W1.setCells w.heap.size (i * 2) xs).drew := ⟨_,rfl⟩
   have hT2 : Turned b w W2 := by rw [hW2]; exact (hT.setCells (.inr (Nat.le_refl _)) _ _).drew
   have hroom2 : Room 2 W2 w.heap.size (G * 2) := by rw [hW2]; exact room_setCells (b := w.heap.size) xs (i * 2) W1 hroomN
   have hcW2 : Cells W2 b o cs := by
    have : W2.heap[b]? = W1.heap[b]? := by rw [hW2]; exact setCells_block _ _ _ _ _ (by omega)
    exact hcW.of_block this
   have hcpB : ∀ ty dc sc,(Builtin.copy_ #[26,26] ty #[.slice (some ⟨w.heap.size,(i + 1) * 2,none⟩) (n + 1 - (i + 1)) dc,.slice (some ⟨b,o + i * 2,none⟩) (n - i) sc]).run Tryd.prog W2 = .ok (goInt ((n - i : Nat) : Int)) (W2.setCells w.heap.size ((i + 1) * 2) (cs.drop (i * 2))) := fun ty dc sc =>
    run_copy_cellsZ W2 _ _ ty 57 w.heap.size ((i + 1) * 2) (n + 1 - (i + 1)) dc ⟨b,o + i * 2,none⟩ (n - i) sc (cs.drop (i * 2)) 2 (n - i) Tryd.underlying26 hszm (by simp only [Nat.min_def]; split <;> omega) hdl
     (fun j v hj => by
       rw [World.cell?_add]
       have := (hcW2.drop (i * 2)) j v hj
       exact this) (fun j hj => (hroom2.cell (by omega)).1) (fun j hj => (hroom2.cell (by omega)).2) h1d
   have hGi : ¬ (G = i) := by omega
   have hGi1 : ¬ (G = i + 1) := by omega
   have hci : ¬ (c = i) := by omega
   have hb3 : (i : Int) ≤ (n : Int) := by omega
   have hw1 : IntKind.i64.wrap ((i : Int) + 1) = (i : Int) + 1 := by rw [IntKind.wrap_i64]; omega
   have fin : Cells (W2.setCells w.heap.size ((i + 1) * 2) (cs.drop (i * 2))) w.heap.size 0 (cs.take (i * 2) ++ xs ++ cs.drop (i * 2)) := by
    have := new_place (w := W1) hlt hl hx (by rw [Array.length_toList,hzc]) hcell0 hroomN (by omega)
    rw [hW2,← drew_setCells]
    intro j v hj
    exact this j v hj
   have finT : Turned b w (W2.setCells w.heap.size ((i + 1) * 2) (cs.drop (i * 2))) := hT2.setCells (.inr (Nat.le_refl _)) _ _
   have finR : Room 2 (W2.setCells w.heap.size ((i + 1) * 2) (cs.drop (i * 2))) w.heap.size (0 + G * 2) := by rw [Nat.zero_add]; exact room_setCells _ _ _ hroom2
   have finS : w.heap.size < (W2.setCells w.heap.size ((i + 1) * 2) (cs.drop (i * 2))).heap.size := by
    rw [setCells_size,hW2]
    show w.heap.size < (W1.setCells w.heap.size (i * 2) xs).heap.size
    rw [setCells_size,hW1s]; omega
   subst hW2
   clear hkk hik hold hROW hG hRs hW1 hh hcell0 hroomN hroom2 hcW hcW2 hxW hzc
   go_enter Tryd.func50,Tryd.ntmps50
   go_wp2_with (first
    | (at_builtin; refine Go.Lib.wpList_append_run _ rfl _ _ _ _ rfl _ _ rfl rfl _ _ hrz ?_)
    | (at_builtin; refine wpList_copy_runI _ rfl _ _ 26 26 rfl _ _ rfl rfl (hcpA _ _) ?_))
   have mixed : Tryd.prog.follows .mixedOrders = true := by kernel_rfl
   go_region_law_o (refine step_copy_runI rfl _ _ 26 26 rfl (.slice (some ⟨w.heap.size,(i + 1) * 2,none⟩) (n + 1 - (i + 1)) (G - (i + 1))) (.slice (some ⟨b,o + i * 2,none⟩) (n - i) (c - i)) (by simp [Act.eval,Act.put]) (by simp [Act.eval,Act.put]) (hcpB 3 (G - (i + 1)) (c - i)) ?_)
   go_wp2
   go_ret
   exact ⟨w.heap.size,0,G,rfl,hGn,.inr ⟨Nat.le_refl _,finS⟩,fin,finR,finT⟩
 ·obtain rfl : i = n := by omega
  obtain ⟨b',o',cp,w1,hrun,q1,q2,q3,q4,q5⟩ := ins_end (vc := vc) Tryd.underlying26 hi hsz hz0 rfl (by rw [hby]; decide) hnc hn hl hcs hr hx hc h1 26
  go_enter Tryd.func50,Tryd.ntmps50
  go_wp2_with (first | (at_builtin; refine Go.Lib.wpList_append_run _ rfl _ _ _ _ rfl _ _ rfl rfl _ _ hrun ?_) | fail)
  all_goals go_ret
  all_goals refine ⟨b',o',cp,rfl,q1,q2,?_,q4,q5⟩
  all_goals (rw [List.take_of_length_le (by omega),List.drop_eq_nil_of_le (by omega),List.append_nil]; exact q3)⟩
end
theorem ok_slices_Insert___impl_Setting_impl_Setting_ : FOk Tryd.prog phi 928 slices_Insert___impl_Setting_impl_Setting__c := insert_ok (E := T_Setting) (by kernel_rfl) (by kernel_rfl) (by decide) ins50_walk (by kernel_rfl)
section
open Go.Shelf Go.Proofs Go.Lib
theorem del51_info : (Tryd.prog.info? 57).map (fun i => (i.zero,i.size,i.bytes)) = some (some (.agg #[.string ⟨#[]⟩,.int .i64 0]),2,24) := by kernel_rfl
set_option maxHeartbeats 3200000 in
theorem del51_walk : DeleteWalk Tryd.prog 51 2 := ⟨⟨_,Tryd.func51,by decide +kernel,rfl⟩,by
 intro b o n c i j cs w hc0 hnc hij hjn hn hl hcs hr h1c
 obtain ⟨iE,hi,he⟩ := Option.map_eq_some_iff.1 del51_info
 simp only [Prod.mk.injEq] at he
 obtain ⟨hz0,hsz,hby⟩ := he
 have hbw : b < w.heap.size := hr.lt
 have hzv : ∀ w,(zeroValue 57).run Tryd.prog w = .ok (.agg #[.string ⟨#[]⟩,.int .i64 0]) w := fun w => by simp [zeroValue,typeInfo,hi,hz0]
 have hcs0 : Cells w.drew b o cs := fun j v hj => hcs j v hj
 have hr0 : Room 2 w.drew b (o + c * 2) := hr
 obtain ⟨news,hnews⟩ : ∃ news,news = cs.drop (j * 2) := ⟨_,rfl⟩
 have hlen : news.length = (n - j) * 2 := by rw [hnews,List.length_drop,hl]; omega
 obtain ⟨A,hA,hsrc⟩ : ∃ A : Addr,(if c = j then some (⟨b,o,none⟩ : Addr) else some ⟨b,o + j * 2,none⟩) = some A ∧ Hid (∀ t u,news[t]? = some u → w.drew.cell? (A.add t) = some u) := by
  by_cases h : c = j
  ·refine ⟨⟨b,o,none⟩,by simp [h],fun t u hu => ?_⟩
   have h0 : news.length = 0 := by rw [hlen]; omega
   rw [List.length_eq_zero_iff.1 h0] at hu
   simp at hu
  ·refine ⟨⟨b,o + j * 2,none⟩,by simp [h],fun t u hu => ?_⟩
   rw [hnews] at hu
   rw [World.cell?_add]
   exact (hcs0.drop (j * 2)) t u hu
 have s1 : Hid (news.length = (n - j) * 2) := hlen
 have s2 : Hid (∀ u ∈ news,u.oneCell' = true) := fun u hu => h1c u (by rw [hnews] at hu; exact List.mem_of_mem_drop hu)
 have s3 : Hid (∀ t,t < news.length → (w.drew.cell? ⟨b,o + i * 2 + t,none⟩).isSome = true ∧ w.drew.frozen? ⟨b,o + i * 2 + t,none⟩ = false) := fun t ht => by
  rw [hlen] at ht
  rw [Nat.add_assoc]
  exact hr0.cell (by omega)
 obtain ⟨W1,hW1⟩ : ∃ W1,W1 = w.drew.setCells b (o + i * 2) news := ⟨_,rfl⟩
 have hr1 : Room 2 W1 b (o + c * 2) := by rw [hW1]; exact room_setCells _ _ _ hr0
 have hT1 : Turned b w W1 := by rw [hW1]; exact ((Turned.refl b w).drew).setCells (.inl rfl) _ _
 have hcl : ∀ ty,(Builtin.clear_ #[26] ty #[.slice (some ⟨b,o + (i + (n - j)) * 2,none⟩) (n - (i + (n - j))) (c - (i + (n - j)))]).run Tryd.prog W1 = .ok (.tuple #[]) (W1.setCells b (o + (i + (n - j)) * 2) (Builtin.zeroCells (Value.agg #[.string ⟨#[]⟩,.int .i64 0]).cells (n - (i + (n - j)))).toList) :=
  fun ty => run_clear_cellsZ W1 _ _ ty _ 2 Tryd.underlying26 hzv rfl (by decide) b (o + (i + (n - j)) * 2) _ _ (by omega) (fun t ht => by rw [Nat.add_assoc]; exact (hr1.cell (by omega)).1) (fun t ht => by rw [Nat.add_assoc]; exact (hr1.cell (by omega)).2)
 have fin : Cells (W1.setCells b (o + (i + (n - j)) * 2) (Builtin.zeroCells (Value.agg #[.string ⟨#[]⟩,.int .i64 0]).cells (n - (i + (n - j)))).toList) b o (cs.take (i * 2) ++ cs.drop (j * 2)) := by
  rw [hW1,hnews]
  exact del_place hij hjn hnc hl hcs0 hr0 (by rw [Array.length_toList,size_zeroCells]; show (n - (i + (n - j))) * 2 = _; congr 1; omega)
 have finT : Turned b w (W1.setCells b (o + (i + (n - j)) * 2) (Builtin.zeroCells (Value.agg #[.string ⟨#[]⟩,.int .i64 0]).cells (n - (i + (n - j)))).toList) := hT1.setCells (.inl rfl) _ _
 have finR : Room 2 (W1.setCells b (o + (i + (n - j)) * 2) (Builtin.zeroCells (Value.agg #[.string ⟨#[]⟩,.int .i64 0]).cells (n - (i + (n - j)))).toList) b (o + c * 2) := room_setCells _ _ _ hr1
 have hW : Hid (W1 = w.drew.setCells b (o + i * 2) news) := hW1
 have hnij : ¬ ((i : Int) = (j : Int)) := by omega
 have hic : i ≤ c := by omega
 have hjc : j ≤ c := by omega
 have mixed : Tryd.prog.follows .mixedOrders = true := by kernel_rfl
 clear hW1 hcs0 hr0 hr1 hT1 hnews hlen hcs
 go_enter Tryd.func51,Tryd.ntmps51
 go_wp2_with (fail)
 go_region_law_o (refine step_append_room rfl (.tmp 22) (.tmp 25) 26 rfl 57 iE 2 Tryd.underlying26 hi hsz b o i c (by simp [Act.eval,Act.put]) A (n - j) (c - j) news (by simp [Act.eval,Act.put]) s1.out hsrc.out s2.out (by omega) s3.out ?_; rw [← hW.out])
 go_wp2
 go_ret
 exact ⟨by rw [show n - (j - i) = i + (n - j) by omega]; rfl,fin,finR,finT⟩⟩
end
theorem ok_slices_Delete___impl_Setting_impl_Setting_ : FOk Tryd.prog phi 929 slices_Delete___impl_Setting_impl_Setting__c := delete_ok (E := T_Setting) (by kernel_rfl) (by kernel_rfl) del51_walk (by kernel_rfl)
theorem ok_impl_apply : FOk Tryd.prog phi 690 impl_apply_c := fn_ok hm (D := impl_apply_D) (DOk.cons ok_impl_find (DOk.cons ok_slices_Insert___impl_Setting_impl_Setting_ (DOk.cons ok_slices_Delete___impl_Setting_impl_Setting_ DOk.nil))) (by kernel_rfl) _ _ _ _
theorem ok_impl_ApplyChanges : FOk Tryd.prog phi 273 impl_ApplyChanges_c := fn_ok hm (D := impl_ApplyChanges_D) (DOk.cons ok_impl_within (DOk.cons ok_impl_ValidState (DOk.cons ok_impl_apply (DOk.cons ok_impl_clone_impl_Setting_ (DOk.cons ok_impl_Setting_valid DOk.nil))))) (by kernel_rfl) _ _ _ _
theorem ok_spec_l27Same : FOk Tryd.prog phi 693 spec_l27Same_c := fn_ok hm (D := spec_l27Same_D) DOk.nil (by kernel_rfl) _ _ _ _
theorem ok_spec_SameState : FOk Tryd.prog phi 266 spec_SameState_c := fn_ok hm (D := spec_SameState_D) (DOk.cons ok_spec_l27Same DOk.nil) (by kernel_rfl) _ _ _ _
theorem ok_laws_r8At : FOk Tryd.prog phi 151 laws_r8At_c := fn_ok hm (D := laws_r8At_D) DOk.nil (by kernel_rfl) _ _ _ _
theorem ok_impl_isMemo : FOk Tryd.prog phi 697 impl_isMemo_c := fn_ok hm (D := impl_isMemo_D) (DOk.cons ok_impl_few (DOk.cons ok_impl_within DOk.nil)) (by kernel_rfl) _ _ _ _
theorem ok_impl_ValidHistory : FOk Tryd.prog phi 696 impl_ValidHistory_c := fn_ok hm (D := impl_ValidHistory_D) (DOk.cons ok_impl_few (DOk.cons ok_impl_within (DOk.cons ok_impl_ValidState (DOk.cons ok_impl_isMemo DOk.nil)))) (by kernel_rfl) _ _ _ _
theorem ok_impl_at : FOk Tryd.prog phi 4 impl_at_c := fn_ok hm (D := impl_at_D) DOk.nil (by kernel_rfl) _ _ _ _
theorem ok_impl_isVersion : FOk Tryd.prog phi 695 impl_isVersion_c := fn_ok hm (D := impl_isVersion_D) (DOk.cons ok_impl_at DOk.nil) (by kernel_rfl) _ _ _ _
theorem ok_impl_copyHistory : FOk Tryd.prog phi 930 impl_copyHistory_c := fn_ok hm (D := impl_copyHistory_D) (DOk.cons ok_impl_clone_impl_Setting_ DOk.nil) (by kernel_rfl) _ _ _ _
theorem ok_impl_commit : FOk Tryd.prog phi 694 impl_commit_c := fn_ok hm (D := impl_commit_D) (DOk.cons ok_impl_clone_impl_Setting_ (DOk.cons ok_impl_copyHistory DOk.nil)) (by kernel_rfl) _ _ _ _
theorem ok_impl_CommitState : FOk Tryd.prog phi 272 impl_CommitState_c := fn_ok hm (D := impl_CommitState_D) (DOk.cons ok_impl_ValidState (DOk.cons ok_impl_commit (DOk.cons ok_impl_isVersion (DOk.cons ok_impl_ValidHistory (DOk.cons ok_impl_isMemo DOk.nil))))) (by kernel_rfl) _ _ _ _
theorem ok_strconv_FormatInt : FOk Tryd.prog phi 864 strconv_FormatInt_c := formatInt_ok Tryd.laysM173 ⟨0,by kernel_rfl⟩ (by kernel_rfl)
theorem ok_impl_Decimal : FOk Tryd.prog phi 524 impl_Decimal_c := fn_ok hm (D := impl_Decimal_D) (DOk.cons ok_strconv_FormatInt DOk.nil) (by kernel_rfl) _ _ _ _
theorem ok_impl_stateOf : FOk Tryd.prog phi 698 impl_stateOf_c := fn_ok hm (D := impl_stateOf_D) DOk.nil (by kernel_rfl) _ _ _ _
theorem ok_impl_UndoVersion : FOk Tryd.prog phi 271 impl_UndoVersion_c := fn_ok hm (D := impl_UndoVersion_D) (DOk.cons ok_impl_Decimal (DOk.cons ok_impl_commit (DOk.cons ok_impl_isVersion (DOk.cons ok_impl_ValidHistory (DOk.cons ok_impl_stateOf DOk.nil))))) (by kernel_rfl) _ _ _ _
theorem ok_impl_ancestors : FOk Tryd.prog phi 699 impl_ancestors_c := fn_ok hm (D := impl_ancestors_D) DOk.nil (by kernel_rfl) _ _ _ _
theorem ok_impl_AncestorsOf : FOk Tryd.prog phi 270 impl_AncestorsOf_c := fn_ok hm (D := impl_AncestorsOf_D) (DOk.cons ok_impl_isVersion (DOk.cons ok_impl_ValidHistory (DOk.cons ok_impl_ancestors DOk.nil))) (by kernel_rfl) _ _ _ _
theorem ok_impl_HeadsOf_1 : FOk Tryd.prog phi 700 impl_HeadsOf_1_c := fn_ok hm (D := impl_HeadsOf_1_D) DOk.nil (by kernel_rfl) _ _ _ _
theorem ok_slices_IndexFunc___impl_Version_impl_Version__impl_HeadsOf_1 : FOk Tryd.prog phi 1267 slices_IndexFunc___impl_Version_impl_Version__impl_HeadsOf_1_c := fn_ok hm (D := slices_IndexFunc___impl_Version_impl_Version__impl_HeadsOf_1_D) (DOk.cons ok_impl_HeadsOf_1 DOk.nil) (by kernel_rfl) _ _ _ _
theorem ok_slices_ContainsFunc___impl_Version_impl_Version__impl_HeadsOf_1 : FOk Tryd.prog phi 1268 slices_ContainsFunc___impl_Version_impl_Version__impl_HeadsOf_1_c := fn_ok hm (D := slices_ContainsFunc___impl_Version_impl_Version__impl_HeadsOf_1_D) (DOk.cons ok_impl_HeadsOf_1 (DOk.cons ok_slices_IndexFunc___impl_Version_impl_Version__impl_HeadsOf_1 DOk.nil)) (by kernel_rfl) _ _ _ _
theorem ok_impl_HeadsOf : FOk Tryd.prog phi 269 impl_HeadsOf_c := fn_ok hm (D := impl_HeadsOf_D) (DOk.cons ok_impl_ValidHistory (DOk.cons ok_slices_ContainsFunc___impl_Version_impl_Version__impl_HeadsOf_1 DOk.nil)) (by kernel_rfl) _ _ _ _
theorem ok_slices_Index___int64_int64_ : FOk Tryd.prog phi 1043 slices_Index___int64_int64__c := fn_ok hm (D := slices_Index___int64_int64__D) DOk.nil (by kernel_rfl) _ _ _ _
theorem ok_slices_Contains___int64_int64_ : FOk Tryd.prog phi 932 slices_Contains___int64_int64__c := fn_ok hm (D := slices_Contains___int64_int64__D) (DOk.cons ok_slices_Index___int64_int64_ DOk.nil) (by kernel_rfl) _ _ _ _
theorem ok_impl_common : FOk Tryd.prog phi 702 impl_common_c := fn_ok hm (D := impl_common_D) (DOk.cons ok_impl_ancestors (DOk.cons ok_slices_Contains___int64_int64_ DOk.nil)) (by kernel_rfl) _ _ _ _
theorem ok_impl_CommonAncestor : FOk Tryd.prog phi 268 impl_CommonAncestor_c := fn_ok hm (D := impl_CommonAncestor_D) (DOk.cons ok_impl_isVersion (DOk.cons ok_impl_ValidHistory (DOk.cons ok_impl_common DOk.nil))) (by kernel_rfl) _ _ _ _
theorem ok_laws_r8Has : FOk Tryd.prog phi 77 laws_r8Has_c := fn_ok hm (D := laws_r8Has_D) DOk.nil (by kernel_rfl) _ _ _ _
theorem ok_spec_l00In : FOk Tryd.prog phi 1 spec_l00In_c := fn_ok hm (D := spec_l00In_D) DOk.nil (by kernel_rfl) _ _ _ _
theorem ok_spec_l27Memo : FOk Tryd.prog phi 933 spec_l27Memo_c := fn_ok hm (D := spec_l27Memo_D) DOk.nil (by kernel_rfl) _ _ _ _
theorem ok_spec_l01Small : FOk Tryd.prog phi 11 spec_l01Small_c := fn_ok hm (D := spec_l01Small_D) DOk.nil (by kernel_rfl) _ _ _ _
theorem ok_spec_l01Digit : FOk Tryd.prog phi 12 spec_l01Digit_c := fn_ok hm (D := spec_l01Digit_D) DOk.nil (by kernel_rfl) _ _ _ _
theorem ok_spec_l01Name : FOk Tryd.prog phi 13 spec_l01Name_c := fn_ok hm (D := spec_l01Name_D) (DOk.cons ok_spec_l01Small (DOk.cons ok_spec_l01Digit DOk.nil)) (by kernel_rfl) _ _ _ _
theorem ok_spec_l27Setting : FOk Tryd.prog phi 936 spec_l27Setting_c := fn_ok hm (D := spec_l27Setting_D) (DOk.cons ok_spec_l00In (DOk.cons ok_spec_l01Name DOk.nil)) (by kernel_rfl) _ _ _ _
theorem ok_spec_l27State : FOk Tryd.prog phi 706 spec_l27State_c := fn_ok hm (D := spec_l27State_D) (DOk.cons ok_spec_l27Setting DOk.nil) (by kernel_rfl) _ _ _ _
theorem ok_spec_l27Ok : FOk Tryd.prog phi 703 spec_l27Ok_c := fn_ok hm (D := spec_l27Ok_D) (DOk.cons ok_spec_l00In (DOk.cons ok_spec_l27State (DOk.cons ok_spec_l27Memo DOk.nil))) (by kernel_rfl) _ _ _ _
theorem ok_spec_ValidHistory : FOk Tryd.prog phi 267 spec_ValidHistory_c := fn_ok hm (D := spec_ValidHistory_D) (DOk.cons ok_spec_l27Ok DOk.nil) (by kernel_rfl) _ _ _ _
theorem ok_impl_VersionText : FOk Tryd.prog phi 265 impl_VersionText_c := fn_ok hm (D := impl_VersionText_D) (DOk.cons ok_impl_within (DOk.cons ok_impl_Decimal (DOk.cons ok_impl_ValidState (DOk.cons ok_impl_isMemo DOk.nil)))) (by kernel_rfl) _ _ _ _
theorem ok_laws_FnVersions : FOk Tryd.prog phi 1278 laws_FnVersions_c := fn_ok hm (D := laws_FnVersions_D) (DOk.cons ok_laws_r8Has (DOk.cons ok_laws_r8Long (DOk.cons ok_laws_r8At (DOk.cons ok_impl_VersionText (DOk.cons ok_spec_SameState (DOk.cons ok_spec_ValidHistory (DOk.cons ok_impl_CommonAncestor (DOk.cons ok_impl_HeadsOf (DOk.cons ok_impl_AncestorsOf (DOk.cons ok_impl_UndoVersion (DOk.cons ok_impl_CommitState (DOk.cons ok_impl_ApplyChanges (DOk.cons ok_impl_DiffStates (DOk.cons ok_spec_R8Changed (DOk.cons ok_spec_R8State (DOk.cons ok_spec_R8History DOk.nil)))))))))))))))) (by kernel_rfl) _ _ _ _
theorem law : ∀ x,wfU laws_FnVersions_c.ps x → ∃ y,laws_FnVersions_c.f x = some y ∧ resA laws_FnVersions_c y = ([A.bool true],[]) := fun x hx => ⟨true,(laws_FnVersions_true x.1 x.2.1 hx.1 hx.2.1),rfl⟩
theorem own : ownKnob Tryd.prog.godebug = none := by kernel_rfl
theorem laid : laidOutB Tryd.prog = true := by kernel_rfl
theorem reads : ∀ t ∈ Tryd.f3.params.toList,Tryd.prog.readableRec t = true ∧ t < Tryd.prog.types.size := by
 have h : (Tryd.f3.params.toList.all fun t => Tryd.prog.readableRec t && decide (t < Tryd.prog.types.size)) = true := by kernel_rfl
 intro t ht
 have := List.all_eq_true.1 h t ht
 simpa only [Bool.and_eq_true,decide_eq_true_eq] using this
theorem spec_eq (H : Type) : ∀ (ds : List (DataW H)),ds.length = Tryd.f3.params.toList.length → Rows.fnVersionsSpec.fn H ds = { results := [.lit (.bool true)],args := ds } := by
 intro ds hd
 have hd : ds.length = 2 := hd
 match ds,hd with
 | [d0,d1],_ => rfl
theorem tab (W : World) (hL : laidMetH Tryd.prog Rows.fnVersionsRow.laid W) : ∀ i,Tryd.prog.globalNamed pow10Name = some i → Lib.TabIs Tryd.prog W pow10Name .u64 Lib.pow10Tab := by
 intro i hi
 have hp : (Rows.fnVersionsRow.laid.all fun x => x.2.handleName?.isNone) = true := by kernel_rfl
 rw [MakeChecks.laidMetH_plain _ _ _ hp] at hL
 have h1 : laidMet Tryd.prog (("internal/strconv.uint64pow10",Rows.laid_internal_strconv_uint64pow10) :: []) W := (laidMet.tail (laidMet.tail hL))
 have e : (Rows.laid_internal_strconv_uint64pow10 : DataW Unit) = Lib.tabData .u64 Lib.pow10Tab := by kernel_rfl
 rw [e] at h1
 exact Lib.tabIs_of_head (t := 107) (e := 73) (n := 20) hi (by obtain rfl := Option.some.inj ((show Tryd.prog.globalNamed pow10Name = some 0 by kernel_rfl).symm.trans hi); kernel_rfl) (by kernel_rfl) (by kernel_rfl) (by kernel_rfl) (by kernel_rfl) h1
theorem errs (W : World) (hL : laidMetH Tryd.prog Rows.fnVersionsRow.laid W) : ∀ n,errNames.contains n = true → ∀ i,Tryd.prog.globalNamed n = some i → ∃ u v,W.var? Tryd.prog n = some #[.iface u v] := by
 intro n hn i hi
 have hn : n = "strconv.ErrSyntax" ∨ n = "strconv.ErrRange" := by simpa [errNames] using hn
 rcases hn with rfl | rfl
 ·have h : Tryd.prog.globalNamed "strconv.ErrSyntax" = none := by kernel_rfl
  rw [h] at hi; cases hi
 ·have h : Tryd.prog.globalNamed "strconv.ErrRange" = none := by kernel_rfl
  rw [h] at hi; cases hi
theorem contract (H : Type) (enc : TypeId × Value → H) (W : World) (base : Nat) (args : Array Value) (ds gs : List (DataW H)) (before : List MemPlace)
 (hval : ∀ (j : Nat) t v,Tryd.f3.params[j]? = some t → args[j]? = some v → Value.okWide Tryd.prog W .any base t v)
 (hW : DataW.Whole enc Tryd.prog Tryd.f3.params.toList Rows.fnVersionsSpec.vars false W args.toList ds gs before) (hL : laidMetH Tryd.prog Rows.fnVersionsRow.laid W) (hsh : W.ShapedOpen Tryd.prog) :
 Calls Tryd.prog 3 args W fun e W' => ∃ v,e = .returned v ∧ Rows.fnVersionsSpec.post enc Tryd.prog Tryd.f3 false true false false W args v W' :=
 row_contract (φ := phi) (g := 1278) (n := 20) ok_laws_FnVersions rfl rfl (tb := 4) Tryd.underlying4 (by kernel_rfl) rfl law laid reads spec_eq W base args ds gs before hval hW (Glob.start hsh (tab W hL) (errs W hL))
theorem lifted (os : Os) (started : os.Started) (H : Type) (enc : TypeId × Value → H) :
 ReturnsInHanded {} Tryd.checked os 3 .any (fun w args => (Rows.fnVersionsSpec.pre enc Tryd.prog Tryd.f3 Rows.fnVersionsRow.domain false w args ∧ laidMetH Tryd.prog Rows.fnVersionsRow.laid w) ∧ sizedMet enc Tryd.prog Tryd.f3 (OpenSpec.ofChange Rows.fnVersionsSpec) false w args) (Rows.fnVersionsSpec.post enc Tryd.prog Tryd.f3 false true false false) := by
 refine returnsInHanded_laid (C := Tryd.checked) (laid := Rows.fnVersionsRow.laid) own started (by kernel_rfl) Tryd.func3
  (ChangeSpec.witness_shaped (enc := enc) (C := Tryd.checked) (os := os) (X := fun w _ => laidMetH Tryd.prog Rows.fnVersionsRow.laid w) false (World.laidAll Tryd.prog os Rows.fnVersionsRow.laid) #[.slice none 0 0,.slice none 0 0] 12 (World.laidAll_os _ _ _)
    (World.shaped_of_ZipB (by kernel_rfl) (by kernel_rfl)) (by kernel_rfl) (by kernel_rfl) (by kernel_rfl)
    (by rw [MakeChecks.laidMetH_plain _ _ _ (by kernel_rfl)]; exact laidMet_laidAll _ (by kernel_rfl) (by kernel_rfl))) ?_
 intro W base args ds gs before hval hW hL hsh
 exact contract H enc W base args ds gs before hval hW hL hsh
theorem over : Rows.fnVersionsRow.holds Tryd.pinned (OpenSpec.ofChange Rows.fnVersionsSpec) :=
 OpenClaim.holds_of_wide 3 Tryd.f3 rfl rfl rfl rfl rfl rfl rfl ⟨rfl,rfl,rfl,rfl,rfl⟩ rfl rfl rfl rfl rfl (by kernel_rfl) Tryd.func3 (by kernel_rfl)
  (of_decide_eq_true (by kernel_rfl)) (by unfold Func.isWrapper; first | (rw [if_pos (by decide +kernel)]; kernel_rfl) | (rw [if_neg (by decide +kernel)]; exact ⟨rfl,rfl⟩))
  (fun os started H enc _ => lifted os started H enc)
theorem card : Rows.FnVersionsCardSaid :=
 Claim7.holds_tied_plain_at .later [] [.data,.data,.data] true (true,"2cbe9ef805b848f3cfaaf52d41d7fec73592b3493a2043989f4422abae6d2141") false over (fun _ h => by cases h) (by kernel_rfl) (fun _ h => by cases h) fnVersions_row_tie rfl ⟨rfl,rfl⟩ (by kernel_rfl) rfl
  (fun f fn hf hfn => by
    obtain rfl : f = 3 := Option.some.inj ((show Tryd.prog.funcNamed "loop.example/g01061/laws.FnVersions" = some 3 by kernel_rfl).symm.trans hf) |>.symm
    obtain rfl : fn = Tryd.f3 := (Option.some.inj (Tryd.func3.symm.trans hfn)).symm
    exact ⟨by kernel_rfl,fun j t ht => by
     have hm : t ∈ Tryd.f3.params.toList := by simpa using Array.mem_of_getElem? ht
     have hall : (Tryd.f3.params.toList.all fun u => !Tryd.prog.wantsStandIn u) = true := by kernel_rfl
     exact (show Tryd.prog.wantsStandIn t = false by simpa using List.all_eq_true.1 hall t hm)⟩)
  (by kernel_rfl)
theorem proved : Rows.FnVersionsCardSaid := card
end Go.Proofs.YtabpaipnheelbaaDoor.fnVersions
